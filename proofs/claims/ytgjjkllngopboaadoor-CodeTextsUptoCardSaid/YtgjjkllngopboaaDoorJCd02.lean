/- What the table of ops says, name by name. -/
import Derived.Test.YtgjjkllngopboaaDoorJCa01
namespace Go.Proofs.YtgjjkllngopboaaDoor
set_option linter.unusedVariables false
set_option linter.unusedSimpArgs false

theorem shape_const : shapeP ⟨#[99, 111, 110, 115, 116]⟩ = some (0, 1, ⟨#[99, 111, 110, 115, 116]⟩) := by decide +kernel
theorem puts_const (a : Int) : putsP ⟨⟨#[99, 111, 110, 115, 116]⟩, a⟩ = 1 := by unfold putsP; rw [shape_const]; rfl
theorem kind_const (a : Int) : kindP ⟨⟨#[99, 111, 110, 115, 116]⟩, a⟩ = ⟨#[99, 111, 110, 115, 116]⟩ := by unfold kindP; rw [shape_const]; rfl
theorem takes_const (a : Int) : takesP ⟨⟨#[99, 111, 110, 115, 116]⟩, a⟩ = 0 := by unfold takesP; rw [if_neg (show ¬ (⟨#[99, 111, 110, 115, 116]⟩ : ByteArray) = n_call by decide), if_neg (show ¬ (⟨#[99, 111, 110, 115, 116]⟩ : ByteArray) = n_list by decide), if_neg (show ¬ (⟨#[99, 111, 110, 115, 116]⟩ : ByteArray) = n_dict by decide), shape_const]; rfl
theorem shape_int : shapeP ⟨#[105, 110, 116]⟩ = some (0, 1, ⟨#[105, 110, 116]⟩) := by decide +kernel
theorem puts_int (a : Int) : putsP ⟨⟨#[105, 110, 116]⟩, a⟩ = 1 := by unfold putsP; rw [shape_int]; rfl
theorem kind_int (a : Int) : kindP ⟨⟨#[105, 110, 116]⟩, a⟩ = ⟨#[105, 110, 116]⟩ := by unfold kindP; rw [shape_int]; rfl
theorem takes_int (a : Int) : takesP ⟨⟨#[105, 110, 116]⟩, a⟩ = 0 := by unfold takesP; rw [if_neg (show ¬ (⟨#[105, 110, 116]⟩ : ByteArray) = n_call by decide), if_neg (show ¬ (⟨#[105, 110, 116]⟩ : ByteArray) = n_list by decide), if_neg (show ¬ (⟨#[105, 110, 116]⟩ : ByteArray) = n_dict by decide), shape_int]; rfl
theorem shape_str : shapeP ⟨#[115, 116, 114]⟩ = some (0, 1, ⟨#[115, 116, 114]⟩) := by decide +kernel
theorem puts_str (a : Int) : putsP ⟨⟨#[115, 116, 114]⟩, a⟩ = 1 := by unfold putsP; rw [shape_str]; rfl
theorem kind_str (a : Int) : kindP ⟨⟨#[115, 116, 114]⟩, a⟩ = ⟨#[115, 116, 114]⟩ := by unfold kindP; rw [shape_str]; rfl
theorem takes_str (a : Int) : takesP ⟨⟨#[115, 116, 114]⟩, a⟩ = 0 := by unfold takesP; rw [if_neg (show ¬ (⟨#[115, 116, 114]⟩ : ByteArray) = n_call by decide), if_neg (show ¬ (⟨#[115, 116, 114]⟩ : ByteArray) = n_list by decide), if_neg (show ¬ (⟨#[115, 116, 114]⟩ : ByteArray) = n_dict by decide), shape_str]; rfl
theorem shape_load : shapeP ⟨#[108, 111, 97, 100]⟩ = some (0, 1, ⟨#[108, 111, 99, 97, 108]⟩) := by decide +kernel
theorem puts_load (a : Int) : putsP ⟨⟨#[108, 111, 97, 100]⟩, a⟩ = 1 := by unfold putsP; rw [shape_load]; rfl
theorem kind_load (a : Int) : kindP ⟨⟨#[108, 111, 97, 100]⟩, a⟩ = ⟨#[108, 111, 99, 97, 108]⟩ := by unfold kindP; rw [shape_load]; rfl
theorem takes_load (a : Int) : takesP ⟨⟨#[108, 111, 97, 100]⟩, a⟩ = 0 := by unfold takesP; rw [if_neg (show ¬ (⟨#[108, 111, 97, 100]⟩ : ByteArray) = n_call by decide), if_neg (show ¬ (⟨#[108, 111, 97, 100]⟩ : ByteArray) = n_list by decide), if_neg (show ¬ (⟨#[108, 111, 97, 100]⟩ : ByteArray) = n_dict by decide), shape_load]; rfl
theorem shape_store : shapeP ⟨#[115, 116, 111, 114, 101]⟩ = some (1, 0, ⟨#[108, 111, 99, 97, 108]⟩) := by decide +kernel
theorem puts_store (a : Int) : putsP ⟨⟨#[115, 116, 111, 114, 101]⟩, a⟩ = 0 := by unfold putsP; rw [shape_store]; rfl
theorem kind_store (a : Int) : kindP ⟨⟨#[115, 116, 111, 114, 101]⟩, a⟩ = ⟨#[108, 111, 99, 97, 108]⟩ := by unfold kindP; rw [shape_store]; rfl
theorem takes_store (a : Int) : takesP ⟨⟨#[115, 116, 111, 114, 101]⟩, a⟩ = 1 := by unfold takesP; rw [if_neg (show ¬ (⟨#[115, 116, 111, 114, 101]⟩ : ByteArray) = n_call by decide), if_neg (show ¬ (⟨#[115, 116, 111, 114, 101]⟩ : ByteArray) = n_list by decide), if_neg (show ¬ (⟨#[115, 116, 111, 114, 101]⟩ : ByteArray) = n_dict by decide), shape_store]; rfl
theorem shape_cell : shapeP ⟨#[99, 101, 108, 108]⟩ = some (0, 1, ⟨#[99, 101, 108, 108]⟩) := by decide +kernel
theorem puts_cell (a : Int) : putsP ⟨⟨#[99, 101, 108, 108]⟩, a⟩ = 1 := by unfold putsP; rw [shape_cell]; rfl
theorem kind_cell (a : Int) : kindP ⟨⟨#[99, 101, 108, 108]⟩, a⟩ = ⟨#[99, 101, 108, 108]⟩ := by unfold kindP; rw [shape_cell]; rfl
theorem takes_cell (a : Int) : takesP ⟨⟨#[99, 101, 108, 108]⟩, a⟩ = 0 := by unfold takesP; rw [if_neg (show ¬ (⟨#[99, 101, 108, 108]⟩ : ByteArray) = n_call by decide), if_neg (show ¬ (⟨#[99, 101, 108, 108]⟩ : ByteArray) = n_list by decide), if_neg (show ¬ (⟨#[99, 101, 108, 108]⟩ : ByteArray) = n_dict by decide), shape_cell]; rfl
theorem shape_fill : shapeP ⟨#[102, 105, 108, 108]⟩ = some (1, 0, ⟨#[99, 101, 108, 108]⟩) := by decide +kernel
theorem puts_fill (a : Int) : putsP ⟨⟨#[102, 105, 108, 108]⟩, a⟩ = 0 := by unfold putsP; rw [shape_fill]; rfl
theorem kind_fill (a : Int) : kindP ⟨⟨#[102, 105, 108, 108]⟩, a⟩ = ⟨#[99, 101, 108, 108]⟩ := by unfold kindP; rw [shape_fill]; rfl
theorem takes_fill (a : Int) : takesP ⟨⟨#[102, 105, 108, 108]⟩, a⟩ = 1 := by unfold takesP; rw [if_neg (show ¬ (⟨#[102, 105, 108, 108]⟩ : ByteArray) = n_call by decide), if_neg (show ¬ (⟨#[102, 105, 108, 108]⟩ : ByteArray) = n_list by decide), if_neg (show ¬ (⟨#[102, 105, 108, 108]⟩ : ByteArray) = n_dict by decide), shape_fill]; rfl
theorem shape_global : shapeP ⟨#[103, 108, 111, 98, 97, 108]⟩ = some (0, 1, ⟨#[110, 97, 109, 101]⟩) := by decide +kernel
theorem puts_global (a : Int) : putsP ⟨⟨#[103, 108, 111, 98, 97, 108]⟩, a⟩ = 1 := by unfold putsP; rw [shape_global]; rfl
theorem kind_global (a : Int) : kindP ⟨⟨#[103, 108, 111, 98, 97, 108]⟩, a⟩ = ⟨#[110, 97, 109, 101]⟩ := by unfold kindP; rw [shape_global]; rfl
theorem takes_global (a : Int) : takesP ⟨⟨#[103, 108, 111, 98, 97, 108]⟩, a⟩ = 0 := by unfold takesP; rw [if_neg (show ¬ (⟨#[103, 108, 111, 98, 97, 108]⟩ : ByteArray) = n_call by decide), if_neg (show ¬ (⟨#[103, 108, 111, 98, 97, 108]⟩ : ByteArray) = n_list by decide), if_neg (show ¬ (⟨#[103, 108, 111, 98, 97, 108]⟩ : ByteArray) = n_dict by decide), shape_global]; rfl
theorem shape_name : shapeP ⟨#[110, 97, 109, 101]⟩ = some (1, 0, ⟨#[110, 97, 109, 101]⟩) := by decide +kernel
theorem puts_name (a : Int) : putsP ⟨⟨#[110, 97, 109, 101]⟩, a⟩ = 0 := by unfold putsP; rw [shape_name]; rfl
theorem kind_name (a : Int) : kindP ⟨⟨#[110, 97, 109, 101]⟩, a⟩ = ⟨#[110, 97, 109, 101]⟩ := by unfold kindP; rw [shape_name]; rfl
theorem takes_name (a : Int) : takesP ⟨⟨#[110, 97, 109, 101]⟩, a⟩ = 1 := by unfold takesP; rw [if_neg (show ¬ (⟨#[110, 97, 109, 101]⟩ : ByteArray) = n_call by decide), if_neg (show ¬ (⟨#[110, 97, 109, 101]⟩ : ByteArray) = n_list by decide), if_neg (show ¬ (⟨#[110, 97, 109, 101]⟩ : ByteArray) = n_dict by decide), shape_name]; rfl
theorem shape_neg : shapeP ⟨#[110, 101, 103]⟩ = some (1, 1, ⟨#[]⟩) := by decide +kernel
theorem puts_neg (a : Int) : putsP ⟨⟨#[110, 101, 103]⟩, a⟩ = 1 := by unfold putsP; rw [shape_neg]; rfl
theorem kind_neg (a : Int) : kindP ⟨⟨#[110, 101, 103]⟩, a⟩ = ⟨#[]⟩ := by unfold kindP; rw [shape_neg]; rfl
theorem takes_neg (a : Int) : takesP ⟨⟨#[110, 101, 103]⟩, a⟩ = 1 := by unfold takesP; rw [if_neg (show ¬ (⟨#[110, 101, 103]⟩ : ByteArray) = n_call by decide), if_neg (show ¬ (⟨#[110, 101, 103]⟩ : ByteArray) = n_list by decide), if_neg (show ¬ (⟨#[110, 101, 103]⟩ : ByteArray) = n_dict by decide), shape_neg]; rfl
theorem shape_not : shapeP ⟨#[110, 111, 116]⟩ = some (1, 1, ⟨#[]⟩) := by decide +kernel
theorem puts_not (a : Int) : putsP ⟨⟨#[110, 111, 116]⟩, a⟩ = 1 := by unfold putsP; rw [shape_not]; rfl
theorem kind_not (a : Int) : kindP ⟨⟨#[110, 111, 116]⟩, a⟩ = ⟨#[]⟩ := by unfold kindP; rw [shape_not]; rfl
theorem takes_not (a : Int) : takesP ⟨⟨#[110, 111, 116]⟩, a⟩ = 1 := by unfold takesP; rw [if_neg (show ¬ (⟨#[110, 111, 116]⟩ : ByteArray) = n_call by decide), if_neg (show ¬ (⟨#[110, 111, 116]⟩ : ByteArray) = n_list by decide), if_neg (show ¬ (⟨#[110, 111, 116]⟩ : ByteArray) = n_dict by decide), shape_not]; rfl
theorem shape_call : shapeP ⟨#[99, 97, 108, 108]⟩ = some (1, 1, ⟨#[109, 97, 110, 121]⟩) := by decide +kernel
theorem puts_call (a : Int) : putsP ⟨⟨#[99, 97, 108, 108]⟩, a⟩ = 1 := by unfold putsP; rw [shape_call]; rfl
theorem kind_call (a : Int) : kindP ⟨⟨#[99, 97, 108, 108]⟩, a⟩ = ⟨#[109, 97, 110, 121]⟩ := by unfold kindP; rw [shape_call]; rfl
theorem takes_call (a : Int) : takesP ⟨⟨#[99, 97, 108, 108]⟩, a⟩ = 1 + a := by unfold takesP; rw [if_pos (show (⟨#[99, 97, 108, 108]⟩ : ByteArray) = n_call by decide), shape_call]; rfl
theorem shape_index : shapeP ⟨#[105, 110, 100, 101, 120]⟩ = some (2, 1, ⟨#[]⟩) := by decide +kernel
theorem puts_index (a : Int) : putsP ⟨⟨#[105, 110, 100, 101, 120]⟩, a⟩ = 1 := by unfold putsP; rw [shape_index]; rfl
theorem kind_index (a : Int) : kindP ⟨⟨#[105, 110, 100, 101, 120]⟩, a⟩ = ⟨#[]⟩ := by unfold kindP; rw [shape_index]; rfl
theorem takes_index (a : Int) : takesP ⟨⟨#[105, 110, 100, 101, 120]⟩, a⟩ = 2 := by unfold takesP; rw [if_neg (show ¬ (⟨#[105, 110, 100, 101, 120]⟩ : ByteArray) = n_call by decide), if_neg (show ¬ (⟨#[105, 110, 100, 101, 120]⟩ : ByteArray) = n_list by decide), if_neg (show ¬ (⟨#[105, 110, 100, 101, 120]⟩ : ByteArray) = n_dict by decide), shape_index]; rfl
theorem shape_put : shapeP ⟨#[112, 117, 116]⟩ = some (3, 0, ⟨#[]⟩) := by decide +kernel
theorem puts_put (a : Int) : putsP ⟨⟨#[112, 117, 116]⟩, a⟩ = 0 := by unfold putsP; rw [shape_put]; rfl
theorem kind_put (a : Int) : kindP ⟨⟨#[112, 117, 116]⟩, a⟩ = ⟨#[]⟩ := by unfold kindP; rw [shape_put]; rfl
theorem takes_put (a : Int) : takesP ⟨⟨#[112, 117, 116]⟩, a⟩ = 3 := by unfold takesP; rw [if_neg (show ¬ (⟨#[112, 117, 116]⟩ : ByteArray) = n_call by decide), if_neg (show ¬ (⟨#[112, 117, 116]⟩ : ByteArray) = n_list by decide), if_neg (show ¬ (⟨#[112, 117, 116]⟩ : ByteArray) = n_dict by decide), shape_put]; rfl
theorem shape_del : shapeP ⟨#[100, 101, 108]⟩ = some (2, 0, ⟨#[]⟩) := by decide +kernel
theorem puts_del (a : Int) : putsP ⟨⟨#[100, 101, 108]⟩, a⟩ = 0 := by unfold putsP; rw [shape_del]; rfl
theorem kind_del (a : Int) : kindP ⟨⟨#[100, 101, 108]⟩, a⟩ = ⟨#[]⟩ := by unfold kindP; rw [shape_del]; rfl
theorem takes_del (a : Int) : takesP ⟨⟨#[100, 101, 108]⟩, a⟩ = 2 := by unfold takesP; rw [if_neg (show ¬ (⟨#[100, 101, 108]⟩ : ByteArray) = n_call by decide), if_neg (show ¬ (⟨#[100, 101, 108]⟩ : ByteArray) = n_list by decide), if_neg (show ¬ (⟨#[100, 101, 108]⟩ : ByteArray) = n_dict by decide), shape_del]; rfl
theorem shape_list : shapeP ⟨#[108, 105, 115, 116]⟩ = some (0, 1, ⟨#[109, 97, 110, 121]⟩) := by decide +kernel
theorem puts_list (a : Int) : putsP ⟨⟨#[108, 105, 115, 116]⟩, a⟩ = 1 := by unfold putsP; rw [shape_list]; rfl
theorem kind_list (a : Int) : kindP ⟨⟨#[108, 105, 115, 116]⟩, a⟩ = ⟨#[109, 97, 110, 121]⟩ := by unfold kindP; rw [shape_list]; rfl
theorem takes_list (a : Int) : takesP ⟨⟨#[108, 105, 115, 116]⟩, a⟩ = a := by unfold takesP; rw [if_neg (show ¬ (⟨#[108, 105, 115, 116]⟩ : ByteArray) = n_call by decide), if_pos (show (⟨#[108, 105, 115, 116]⟩ : ByteArray) = n_list by decide)]
theorem shape_dict : shapeP ⟨#[100, 105, 99, 116]⟩ = some (0, 1, ⟨#[109, 97, 110, 121]⟩) := by decide +kernel
theorem puts_dict (a : Int) : putsP ⟨⟨#[100, 105, 99, 116]⟩, a⟩ = 1 := by unfold putsP; rw [shape_dict]; rfl
theorem kind_dict (a : Int) : kindP ⟨⟨#[100, 105, 99, 116]⟩, a⟩ = ⟨#[109, 97, 110, 121]⟩ := by unfold kindP; rw [shape_dict]; rfl
theorem takes_dict (a : Int) : takesP ⟨⟨#[100, 105, 99, 116]⟩, a⟩ = 2 * a := by unfold takesP; rw [if_neg (show ¬ (⟨#[100, 105, 99, 116]⟩ : ByteArray) = n_call by decide), if_neg (show ¬ (⟨#[100, 105, 99, 116]⟩ : ByteArray) = n_list by decide), if_pos (show (⟨#[100, 105, 99, 116]⟩ : ByteArray) = n_dict by decide)]
theorem shape_closure : shapeP ⟨#[99, 108, 111, 115, 117, 114, 101]⟩ = some (0, 1, ⟨#[102, 117, 110, 99]⟩) := by decide +kernel
theorem puts_closure (a : Int) : putsP ⟨⟨#[99, 108, 111, 115, 117, 114, 101]⟩, a⟩ = 1 := by unfold putsP; rw [shape_closure]; rfl
theorem kind_closure (a : Int) : kindP ⟨⟨#[99, 108, 111, 115, 117, 114, 101]⟩, a⟩ = ⟨#[102, 117, 110, 99]⟩ := by unfold kindP; rw [shape_closure]; rfl
theorem takes_closure (a : Int) : takesP ⟨⟨#[99, 108, 111, 115, 117, 114, 101]⟩, a⟩ = 0 := by unfold takesP; rw [if_neg (show ¬ (⟨#[99, 108, 111, 115, 117, 114, 101]⟩ : ByteArray) = n_call by decide), if_neg (show ¬ (⟨#[99, 108, 111, 115, 117, 114, 101]⟩ : ByteArray) = n_list by decide), if_neg (show ¬ (⟨#[99, 108, 111, 115, 117, 114, 101]⟩ : ByteArray) = n_dict by decide), shape_closure]; rfl
theorem shape_take : shapeP ⟨#[116, 97, 107, 101]⟩ = some (0, 0, ⟨#[99, 101, 108, 108]⟩) := by decide +kernel
theorem puts_take (a : Int) : putsP ⟨⟨#[116, 97, 107, 101]⟩, a⟩ = 0 := by unfold putsP; rw [shape_take]; rfl
theorem kind_take (a : Int) : kindP ⟨⟨#[116, 97, 107, 101]⟩, a⟩ = ⟨#[99, 101, 108, 108]⟩ := by unfold kindP; rw [shape_take]; rfl
theorem takes_take (a : Int) : takesP ⟨⟨#[116, 97, 107, 101]⟩, a⟩ = 0 := by unfold takesP; rw [if_neg (show ¬ (⟨#[116, 97, 107, 101]⟩ : ByteArray) = n_call by decide), if_neg (show ¬ (⟨#[116, 97, 107, 101]⟩ : ByteArray) = n_list by decide), if_neg (show ¬ (⟨#[116, 97, 107, 101]⟩ : ByteArray) = n_dict by decide), shape_take]; rfl
theorem shape_pop : shapeP ⟨#[112, 111, 112]⟩ = some (1, 0, ⟨#[]⟩) := by decide +kernel
theorem puts_pop (a : Int) : putsP ⟨⟨#[112, 111, 112]⟩, a⟩ = 0 := by unfold putsP; rw [shape_pop]; rfl
theorem kind_pop (a : Int) : kindP ⟨⟨#[112, 111, 112]⟩, a⟩ = ⟨#[]⟩ := by unfold kindP; rw [shape_pop]; rfl
theorem takes_pop (a : Int) : takesP ⟨⟨#[112, 111, 112]⟩, a⟩ = 1 := by unfold takesP; rw [if_neg (show ¬ (⟨#[112, 111, 112]⟩ : ByteArray) = n_call by decide), if_neg (show ¬ (⟨#[112, 111, 112]⟩ : ByteArray) = n_list by decide), if_neg (show ¬ (⟨#[112, 111, 112]⟩ : ByteArray) = n_dict by decide), shape_pop]; rfl
theorem shape_dup : shapeP ⟨#[100, 117, 112]⟩ = some (1, 2, ⟨#[]⟩) := by decide +kernel
theorem puts_dup (a : Int) : putsP ⟨⟨#[100, 117, 112]⟩, a⟩ = 2 := by unfold putsP; rw [shape_dup]; rfl
theorem kind_dup (a : Int) : kindP ⟨⟨#[100, 117, 112]⟩, a⟩ = ⟨#[]⟩ := by unfold kindP; rw [shape_dup]; rfl
theorem takes_dup (a : Int) : takesP ⟨⟨#[100, 117, 112]⟩, a⟩ = 1 := by unfold takesP; rw [if_neg (show ¬ (⟨#[100, 117, 112]⟩ : ByteArray) = n_call by decide), if_neg (show ¬ (⟨#[100, 117, 112]⟩ : ByteArray) = n_list by decide), if_neg (show ¬ (⟨#[100, 117, 112]⟩ : ByteArray) = n_dict by decide), shape_dup]; rfl
theorem shape_jump : shapeP ⟨#[106, 117, 109, 112]⟩ = some (0, 0, ⟨#[111, 112]⟩) := by decide +kernel
theorem puts_jump (a : Int) : putsP ⟨⟨#[106, 117, 109, 112]⟩, a⟩ = 0 := by unfold putsP; rw [shape_jump]; rfl
theorem kind_jump (a : Int) : kindP ⟨⟨#[106, 117, 109, 112]⟩, a⟩ = ⟨#[111, 112]⟩ := by unfold kindP; rw [shape_jump]; rfl
theorem takes_jump (a : Int) : takesP ⟨⟨#[106, 117, 109, 112]⟩, a⟩ = 0 := by unfold takesP; rw [if_neg (show ¬ (⟨#[106, 117, 109, 112]⟩ : ByteArray) = n_call by decide), if_neg (show ¬ (⟨#[106, 117, 109, 112]⟩ : ByteArray) = n_list by decide), if_neg (show ¬ (⟨#[106, 117, 109, 112]⟩ : ByteArray) = n_dict by decide), shape_jump]; rfl
theorem shape_unless : shapeP ⟨#[117, 110, 108, 101, 115, 115]⟩ = some (1, 0, ⟨#[111, 112]⟩) := by decide +kernel
theorem puts_unless (a : Int) : putsP ⟨⟨#[117, 110, 108, 101, 115, 115]⟩, a⟩ = 0 := by unfold putsP; rw [shape_unless]; rfl
theorem kind_unless (a : Int) : kindP ⟨⟨#[117, 110, 108, 101, 115, 115]⟩, a⟩ = ⟨#[111, 112]⟩ := by unfold kindP; rw [shape_unless]; rfl
theorem takes_unless (a : Int) : takesP ⟨⟨#[117, 110, 108, 101, 115, 115]⟩, a⟩ = 1 := by unfold takesP; rw [if_neg (show ¬ (⟨#[117, 110, 108, 101, 115, 115]⟩ : ByteArray) = n_call by decide), if_neg (show ¬ (⟨#[117, 110, 108, 101, 115, 115]⟩ : ByteArray) = n_list by decide), if_neg (show ¬ (⟨#[117, 110, 108, 101, 115, 115]⟩ : ByteArray) = n_dict by decide), shape_unless]; rfl
theorem shape_iter : shapeP ⟨#[105, 116, 101, 114]⟩ = some (1, 1, ⟨#[]⟩) := by decide +kernel
theorem puts_iter (a : Int) : putsP ⟨⟨#[105, 116, 101, 114]⟩, a⟩ = 1 := by unfold putsP; rw [shape_iter]; rfl
theorem kind_iter (a : Int) : kindP ⟨⟨#[105, 116, 101, 114]⟩, a⟩ = ⟨#[]⟩ := by unfold kindP; rw [shape_iter]; rfl
theorem takes_iter (a : Int) : takesP ⟨⟨#[105, 116, 101, 114]⟩, a⟩ = 1 := by unfold takesP; rw [if_neg (show ¬ (⟨#[105, 116, 101, 114]⟩ : ByteArray) = n_call by decide), if_neg (show ¬ (⟨#[105, 116, 101, 114]⟩ : ByteArray) = n_list by decide), if_neg (show ¬ (⟨#[105, 116, 101, 114]⟩ : ByteArray) = n_dict by decide), shape_iter]; rfl
theorem shape_next : shapeP ⟨#[110, 101, 120, 116]⟩ = some (1, 2, ⟨#[111, 112]⟩) := by decide +kernel
theorem puts_next (a : Int) : putsP ⟨⟨#[110, 101, 120, 116]⟩, a⟩ = 2 := by unfold putsP; rw [shape_next]; rfl
theorem kind_next (a : Int) : kindP ⟨⟨#[110, 101, 120, 116]⟩, a⟩ = ⟨#[111, 112]⟩ := by unfold kindP; rw [shape_next]; rfl
theorem kt_next (a : Int) : takesP ⟨⟨#[110, 101, 120, 116]⟩, a⟩ = 1 := by unfold takesP; rw [if_neg (show ¬ (⟨#[110, 101, 120, 116]⟩ : ByteArray) = n_call by decide), if_neg (show ¬ (⟨#[110, 101, 120, 116]⟩ : ByteArray) = n_list by decide), if_neg (show ¬ (⟨#[110, 101, 120, 116]⟩ : ByteArray) = n_dict by decide), shape_next]; rfl
theorem shape_try : shapeP ⟨#[116, 114, 121]⟩ = some (0, 0, ⟨#[111, 112]⟩) := by decide +kernel
theorem puts_try (a : Int) : putsP ⟨⟨#[116, 114, 121]⟩, a⟩ = 0 := by unfold putsP; rw [shape_try]; rfl
theorem kind_try (a : Int) : kindP ⟨⟨#[116, 114, 121]⟩, a⟩ = ⟨#[111, 112]⟩ := by unfold kindP; rw [shape_try]; rfl
theorem takes_try (a : Int) : takesP ⟨⟨#[116, 114, 121]⟩, a⟩ = 0 := by unfold takesP; rw [if_neg (show ¬ (⟨#[116, 114, 121]⟩ : ByteArray) = n_call by decide), if_neg (show ¬ (⟨#[116, 114, 121]⟩ : ByteArray) = n_list by decide), if_neg (show ¬ (⟨#[116, 114, 121]⟩ : ByteArray) = n_dict by decide), shape_try]; rfl
theorem kt_shend : shapeP ⟨#[101, 110, 100]⟩ = some (0, 0, ⟨#[]⟩) := by decide +kernel
theorem puts_end (a : Int) : putsP ⟨⟨#[101, 110, 100]⟩, a⟩ = 0 := by unfold putsP; rw [kt_shend]; rfl
theorem kind_end (a : Int) : kindP ⟨⟨#[101, 110, 100]⟩, a⟩ = ⟨#[]⟩ := by unfold kindP; rw [kt_shend]; rfl
theorem takes_end (a : Int) : takesP ⟨⟨#[101, 110, 100]⟩, a⟩ = 0 := by unfold takesP; rw [if_neg (show ¬ (⟨#[101, 110, 100]⟩ : ByteArray) = n_call by decide), if_neg (show ¬ (⟨#[101, 110, 100]⟩ : ByteArray) = n_list by decide), if_neg (show ¬ (⟨#[101, 110, 100]⟩ : ByteArray) = n_dict by decide), kt_shend]; rfl
theorem shape_raise : shapeP ⟨#[114, 97, 105, 115, 101]⟩ = some (1, 0, ⟨#[]⟩) := by decide +kernel
theorem puts_raise (a : Int) : putsP ⟨⟨#[114, 97, 105, 115, 101]⟩, a⟩ = 0 := by unfold putsP; rw [shape_raise]; rfl
theorem kind_raise (a : Int) : kindP ⟨⟨#[114, 97, 105, 115, 101]⟩, a⟩ = ⟨#[]⟩ := by unfold kindP; rw [shape_raise]; rfl
theorem takes_raise (a : Int) : takesP ⟨⟨#[114, 97, 105, 115, 101]⟩, a⟩ = 1 := by unfold takesP; rw [if_neg (show ¬ (⟨#[114, 97, 105, 115, 101]⟩ : ByteArray) = n_call by decide), if_neg (show ¬ (⟨#[114, 97, 105, 115, 101]⟩ : ByteArray) = n_list by decide), if_neg (show ¬ (⟨#[114, 97, 105, 115, 101]⟩ : ByteArray) = n_dict by decide), shape_raise]; rfl
theorem shape_return : shapeP ⟨#[114, 101, 116, 117, 114, 110]⟩ = some (1, 0, ⟨#[]⟩) := by decide +kernel
theorem puts_return (a : Int) : putsP ⟨⟨#[114, 101, 116, 117, 114, 110]⟩, a⟩ = 0 := by unfold putsP; rw [shape_return]; rfl
theorem kind_return (a : Int) : kindP ⟨⟨#[114, 101, 116, 117, 114, 110]⟩, a⟩ = ⟨#[]⟩ := by unfold kindP; rw [shape_return]; rfl
theorem takes_return (a : Int) : takesP ⟨⟨#[114, 101, 116, 117, 114, 110]⟩, a⟩ = 1 := by unfold takesP; rw [if_neg (show ¬ (⟨#[114, 101, 116, 117, 114, 110]⟩ : ByteArray) = n_call by decide), if_neg (show ¬ (⟨#[114, 101, 116, 117, 114, 110]⟩ : ByteArray) = n_list by decide), if_neg (show ¬ (⟨#[114, 101, 116, 117, 114, 110]⟩ : ByteArray) = n_dict by decide), shape_return]; rfl
theorem shape_step : shapeP ⟨#[115, 116, 101, 112]⟩ = some (0, 0, ⟨#[]⟩) := by decide +kernel
theorem puts_step (a : Int) : putsP ⟨⟨#[115, 116, 101, 112]⟩, a⟩ = 0 := by unfold putsP; rw [shape_step]; rfl
theorem kind_step (a : Int) : kindP ⟨⟨#[115, 116, 101, 112]⟩, a⟩ = ⟨#[]⟩ := by unfold kindP; rw [shape_step]; rfl
theorem takes_step (a : Int) : takesP ⟨⟨#[115, 116, 101, 112]⟩, a⟩ = 0 := by unfold takesP; rw [if_neg (show ¬ (⟨#[115, 116, 101, 112]⟩ : ByteArray) = n_call by decide), if_neg (show ¬ (⟨#[115, 116, 101, 112]⟩ : ByteArray) = n_list by decide), if_neg (show ¬ (⟨#[115, 116, 101, 112]⟩ : ByteArray) = n_dict by decide), shape_step]; rfl
theorem shape_halt : shapeP ⟨#[104, 97, 108, 116]⟩ = some (0, 0, ⟨#[]⟩) := by decide +kernel
theorem puts_halt (a : Int) : putsP ⟨⟨#[104, 97, 108, 116]⟩, a⟩ = 0 := by unfold putsP; rw [shape_halt]; rfl
theorem kind_halt (a : Int) : kindP ⟨⟨#[104, 97, 108, 116]⟩, a⟩ = ⟨#[]⟩ := by unfold kindP; rw [shape_halt]; rfl
theorem takes_halt (a : Int) : takesP ⟨⟨#[104, 97, 108, 116]⟩, a⟩ = 0 := by unfold takesP; rw [if_neg (show ¬ (⟨#[104, 97, 108, 116]⟩ : ByteArray) = n_call by decide), if_neg (show ¬ (⟨#[104, 97, 108, 116]⟩ : ByteArray) = n_list by decide), if_neg (show ¬ (⟨#[104, 97, 108, 116]⟩ : ByteArray) = n_dict by decide), shape_halt]; rfl
theorem shape_add : shapeP ⟨#[97, 100, 100]⟩ = some (2, 1, ⟨#[]⟩) := by decide +kernel
theorem puts_add (a : Int) : putsP ⟨⟨#[97, 100, 100]⟩, a⟩ = 1 := by unfold putsP; rw [shape_add]; rfl
theorem kind_add (a : Int) : kindP ⟨⟨#[97, 100, 100]⟩, a⟩ = ⟨#[]⟩ := by unfold kindP; rw [shape_add]; rfl
theorem takes_add (a : Int) : takesP ⟨⟨#[97, 100, 100]⟩, a⟩ = 2 := by unfold takesP; rw [if_neg (show ¬ (⟨#[97, 100, 100]⟩ : ByteArray) = n_call by decide), if_neg (show ¬ (⟨#[97, 100, 100]⟩ : ByteArray) = n_list by decide), if_neg (show ¬ (⟨#[97, 100, 100]⟩ : ByteArray) = n_dict by decide), shape_add]; rfl
theorem shape_sub : shapeP ⟨#[115, 117, 98]⟩ = some (2, 1, ⟨#[]⟩) := by decide +kernel
theorem puts_sub (a : Int) : putsP ⟨⟨#[115, 117, 98]⟩, a⟩ = 1 := by unfold putsP; rw [shape_sub]; rfl
theorem kind_sub (a : Int) : kindP ⟨⟨#[115, 117, 98]⟩, a⟩ = ⟨#[]⟩ := by unfold kindP; rw [shape_sub]; rfl
theorem takes_sub (a : Int) : takesP ⟨⟨#[115, 117, 98]⟩, a⟩ = 2 := by unfold takesP; rw [if_neg (show ¬ (⟨#[115, 117, 98]⟩ : ByteArray) = n_call by decide), if_neg (show ¬ (⟨#[115, 117, 98]⟩ : ByteArray) = n_list by decide), if_neg (show ¬ (⟨#[115, 117, 98]⟩ : ByteArray) = n_dict by decide), shape_sub]; rfl
theorem shape_mul : shapeP ⟨#[109, 117, 108]⟩ = some (2, 1, ⟨#[]⟩) := by decide +kernel
theorem puts_mul (a : Int) : putsP ⟨⟨#[109, 117, 108]⟩, a⟩ = 1 := by unfold putsP; rw [shape_mul]; rfl
theorem kind_mul (a : Int) : kindP ⟨⟨#[109, 117, 108]⟩, a⟩ = ⟨#[]⟩ := by unfold kindP; rw [shape_mul]; rfl
theorem takes_mul (a : Int) : takesP ⟨⟨#[109, 117, 108]⟩, a⟩ = 2 := by unfold takesP; rw [if_neg (show ¬ (⟨#[109, 117, 108]⟩ : ByteArray) = n_call by decide), if_neg (show ¬ (⟨#[109, 117, 108]⟩ : ByteArray) = n_list by decide), if_neg (show ¬ (⟨#[109, 117, 108]⟩ : ByteArray) = n_dict by decide), shape_mul]; rfl
theorem shape_div : shapeP ⟨#[100, 105, 118]⟩ = some (2, 1, ⟨#[]⟩) := by decide +kernel
theorem puts_div (a : Int) : putsP ⟨⟨#[100, 105, 118]⟩, a⟩ = 1 := by unfold putsP; rw [shape_div]; rfl
theorem kind_div (a : Int) : kindP ⟨⟨#[100, 105, 118]⟩, a⟩ = ⟨#[]⟩ := by unfold kindP; rw [shape_div]; rfl
theorem takes_div (a : Int) : takesP ⟨⟨#[100, 105, 118]⟩, a⟩ = 2 := by unfold takesP; rw [if_neg (show ¬ (⟨#[100, 105, 118]⟩ : ByteArray) = n_call by decide), if_neg (show ¬ (⟨#[100, 105, 118]⟩ : ByteArray) = n_list by decide), if_neg (show ¬ (⟨#[100, 105, 118]⟩ : ByteArray) = n_dict by decide), shape_div]; rfl
theorem shape_mod : shapeP ⟨#[109, 111, 100]⟩ = some (2, 1, ⟨#[]⟩) := by decide +kernel
theorem puts_mod (a : Int) : putsP ⟨⟨#[109, 111, 100]⟩, a⟩ = 1 := by unfold putsP; rw [shape_mod]; rfl
theorem kind_mod (a : Int) : kindP ⟨⟨#[109, 111, 100]⟩, a⟩ = ⟨#[]⟩ := by unfold kindP; rw [shape_mod]; rfl
theorem takes_mod (a : Int) : takesP ⟨⟨#[109, 111, 100]⟩, a⟩ = 2 := by unfold takesP; rw [if_neg (show ¬ (⟨#[109, 111, 100]⟩ : ByteArray) = n_call by decide), if_neg (show ¬ (⟨#[109, 111, 100]⟩ : ByteArray) = n_list by decide), if_neg (show ¬ (⟨#[109, 111, 100]⟩ : ByteArray) = n_dict by decide), shape_mod]; rfl
theorem shape_eq : shapeP ⟨#[101, 113]⟩ = some (2, 1, ⟨#[]⟩) := by decide +kernel
theorem puts_eq (a : Int) : putsP ⟨⟨#[101, 113]⟩, a⟩ = 1 := by unfold putsP; rw [shape_eq]; rfl
theorem kind_eq (a : Int) : kindP ⟨⟨#[101, 113]⟩, a⟩ = ⟨#[]⟩ := by unfold kindP; rw [shape_eq]; rfl
theorem takes_eq (a : Int) : takesP ⟨⟨#[101, 113]⟩, a⟩ = 2 := by unfold takesP; rw [if_neg (show ¬ (⟨#[101, 113]⟩ : ByteArray) = n_call by decide), if_neg (show ¬ (⟨#[101, 113]⟩ : ByteArray) = n_list by decide), if_neg (show ¬ (⟨#[101, 113]⟩ : ByteArray) = n_dict by decide), shape_eq]; rfl
theorem shape_ne : shapeP ⟨#[110, 101]⟩ = some (2, 1, ⟨#[]⟩) := by decide +kernel
theorem puts_ne (a : Int) : putsP ⟨⟨#[110, 101]⟩, a⟩ = 1 := by unfold putsP; rw [shape_ne]; rfl
theorem kind_ne (a : Int) : kindP ⟨⟨#[110, 101]⟩, a⟩ = ⟨#[]⟩ := by unfold kindP; rw [shape_ne]; rfl
theorem takes_ne (a : Int) : takesP ⟨⟨#[110, 101]⟩, a⟩ = 2 := by unfold takesP; rw [if_neg (show ¬ (⟨#[110, 101]⟩ : ByteArray) = n_call by decide), if_neg (show ¬ (⟨#[110, 101]⟩ : ByteArray) = n_list by decide), if_neg (show ¬ (⟨#[110, 101]⟩ : ByteArray) = n_dict by decide), shape_ne]; rfl
theorem shape_lt : shapeP ⟨#[108, 116]⟩ = some (2, 1, ⟨#[]⟩) := by decide +kernel
theorem puts_lt (a : Int) : putsP ⟨⟨#[108, 116]⟩, a⟩ = 1 := by unfold putsP; rw [shape_lt]; rfl
theorem kind_lt (a : Int) : kindP ⟨⟨#[108, 116]⟩, a⟩ = ⟨#[]⟩ := by unfold kindP; rw [shape_lt]; rfl
theorem takes_lt (a : Int) : takesP ⟨⟨#[108, 116]⟩, a⟩ = 2 := by unfold takesP; rw [if_neg (show ¬ (⟨#[108, 116]⟩ : ByteArray) = n_call by decide), if_neg (show ¬ (⟨#[108, 116]⟩ : ByteArray) = n_list by decide), if_neg (show ¬ (⟨#[108, 116]⟩ : ByteArray) = n_dict by decide), shape_lt]; rfl
theorem shape_le : shapeP ⟨#[108, 101]⟩ = some (2, 1, ⟨#[]⟩) := by decide +kernel
theorem puts_le (a : Int) : putsP ⟨⟨#[108, 101]⟩, a⟩ = 1 := by unfold putsP; rw [shape_le]; rfl
theorem kind_le (a : Int) : kindP ⟨⟨#[108, 101]⟩, a⟩ = ⟨#[]⟩ := by unfold kindP; rw [shape_le]; rfl
theorem takes_le (a : Int) : takesP ⟨⟨#[108, 101]⟩, a⟩ = 2 := by unfold takesP; rw [if_neg (show ¬ (⟨#[108, 101]⟩ : ByteArray) = n_call by decide), if_neg (show ¬ (⟨#[108, 101]⟩ : ByteArray) = n_list by decide), if_neg (show ¬ (⟨#[108, 101]⟩ : ByteArray) = n_dict by decide), shape_le]; rfl
theorem shape_gt : shapeP ⟨#[103, 116]⟩ = some (2, 1, ⟨#[]⟩) := by decide +kernel
theorem puts_gt (a : Int) : putsP ⟨⟨#[103, 116]⟩, a⟩ = 1 := by unfold putsP; rw [shape_gt]; rfl
theorem kind_gt (a : Int) : kindP ⟨⟨#[103, 116]⟩, a⟩ = ⟨#[]⟩ := by unfold kindP; rw [shape_gt]; rfl
theorem takes_gt (a : Int) : takesP ⟨⟨#[103, 116]⟩, a⟩ = 2 := by unfold takesP; rw [if_neg (show ¬ (⟨#[103, 116]⟩ : ByteArray) = n_call by decide), if_neg (show ¬ (⟨#[103, 116]⟩ : ByteArray) = n_list by decide), if_neg (show ¬ (⟨#[103, 116]⟩ : ByteArray) = n_dict by decide), shape_gt]; rfl
theorem shape_ge : shapeP ⟨#[103, 101]⟩ = some (2, 1, ⟨#[]⟩) := by decide +kernel
theorem puts_ge (a : Int) : putsP ⟨⟨#[103, 101]⟩, a⟩ = 1 := by unfold putsP; rw [shape_ge]; rfl
theorem kind_ge (a : Int) : kindP ⟨⟨#[103, 101]⟩, a⟩ = ⟨#[]⟩ := by unfold kindP; rw [shape_ge]; rfl
theorem takes_ge (a : Int) : takesP ⟨⟨#[103, 101]⟩, a⟩ = 2 := by unfold takesP; rw [if_neg (show ¬ (⟨#[103, 101]⟩ : ByteArray) = n_call by decide), if_neg (show ¬ (⟨#[103, 101]⟩ : ByteArray) = n_list by decide), if_neg (show ¬ (⟨#[103, 101]⟩ : ByteArray) = n_dict by decide), shape_ge]; rfl
theorem shape_is : shapeP ⟨#[105, 115]⟩ = some (2, 1, ⟨#[]⟩) := by decide +kernel
theorem puts_is (a : Int) : putsP ⟨⟨#[105, 115]⟩, a⟩ = 1 := by unfold putsP; rw [shape_is]; rfl
theorem kind_is (a : Int) : kindP ⟨⟨#[105, 115]⟩, a⟩ = ⟨#[]⟩ := by unfold kindP; rw [shape_is]; rfl
theorem takes_is (a : Int) : takesP ⟨⟨#[105, 115]⟩, a⟩ = 2 := by unfold takesP; rw [if_neg (show ¬ (⟨#[105, 115]⟩ : ByteArray) = n_call by decide), if_neg (show ¬ (⟨#[105, 115]⟩ : ByteArray) = n_list by decide), if_neg (show ¬ (⟨#[105, 115]⟩ : ByteArray) = n_dict by decide), shape_is]; rfl
theorem shape_in : shapeP ⟨#[105, 110]⟩ = some (2, 1, ⟨#[]⟩) := by decide +kernel
theorem puts_in (a : Int) : putsP ⟨⟨#[105, 110]⟩, a⟩ = 1 := by unfold putsP; rw [shape_in]; rfl
theorem kind_in (a : Int) : kindP ⟨⟨#[105, 110]⟩, a⟩ = ⟨#[]⟩ := by unfold kindP; rw [shape_in]; rfl
theorem kt_in (a : Int) : takesP ⟨⟨#[105, 110]⟩, a⟩ = 2 := by unfold takesP; rw [if_neg (show ¬ (⟨#[105, 110]⟩ : ByteArray) = n_call by decide), if_neg (show ¬ (⟨#[105, 110]⟩ : ByteArray) = n_list by decide), if_neg (show ¬ (⟨#[105, 110]⟩ : ByteArray) = n_dict by decide), shape_in]; rfl
end Go.Proofs.YtgjjkllngopboaaDoor
