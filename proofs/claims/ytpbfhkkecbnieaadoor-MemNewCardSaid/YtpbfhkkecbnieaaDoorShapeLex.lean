/- The closed fact of Memory.shape's long region. -/
import Derived.Test.YtpbfhkkecbnieaaDoorLex
namespace Go.Proofs.YtpbfhkkecbnieaaDoor
noncomputable def shapeOps : List Oper := regOf Tryd.f94 2
theorem shape_size : shapeOps.toArray.size = 96 := by kernel_rfl
theorem shape_sel : Region.noSelect shapeOps.toArray = true := by kernel_rfl
theorem shape_end : (Region.ready .any shapeOps.toArray (lst 96 96)).isEmpty = true := by kernel_rfl
theorem shape_l0 : lexOne .any shapeOps.toArray 96 0 = true := by kernel_rfl
theorem shape_l1 : lexOne .any shapeOps.toArray 96 1 = true := by kernel_rfl
theorem shape_l2 : lexOne .any shapeOps.toArray 96 2 = true := by kernel_rfl
theorem shape_l3 : lexOne .any shapeOps.toArray 96 3 = true := by kernel_rfl
theorem shape_l4 : lexOne .any shapeOps.toArray 96 4 = true := by kernel_rfl
theorem shape_l5 : lexOne .any shapeOps.toArray 96 5 = true := by kernel_rfl
theorem shape_l6 : lexOne .any shapeOps.toArray 96 6 = true := by kernel_rfl
theorem shape_l7 : lexOne .any shapeOps.toArray 96 7 = true := by kernel_rfl
theorem shape_l8 : lexOne .any shapeOps.toArray 96 8 = true := by kernel_rfl
theorem shape_l9 : lexOne .any shapeOps.toArray 96 9 = true := by kernel_rfl
theorem shape_l10 : lexOne .any shapeOps.toArray 96 10 = true := by kernel_rfl
theorem shape_l11 : lexOne .any shapeOps.toArray 96 11 = true := by kernel_rfl
theorem shape_l12 : lexOne .any shapeOps.toArray 96 12 = true := by kernel_rfl
theorem shape_l13 : lexOne .any shapeOps.toArray 96 13 = true := by kernel_rfl
theorem shape_l14 : lexOne .any shapeOps.toArray 96 14 = true := by kernel_rfl
theorem shape_l15 : lexOne .any shapeOps.toArray 96 15 = true := by kernel_rfl
theorem shape_l16 : lexOne .any shapeOps.toArray 96 16 = true := by kernel_rfl
theorem shape_l17 : lexOne .any shapeOps.toArray 96 17 = true := by kernel_rfl
theorem shape_l18 : lexOne .any shapeOps.toArray 96 18 = true := by kernel_rfl
theorem shape_l19 : lexOne .any shapeOps.toArray 96 19 = true := by kernel_rfl
theorem shape_l20 : lexOne .any shapeOps.toArray 96 20 = true := by kernel_rfl
theorem shape_l21 : lexOne .any shapeOps.toArray 96 21 = true := by kernel_rfl
theorem shape_l22 : lexOne .any shapeOps.toArray 96 22 = true := by kernel_rfl
theorem shape_l23 : lexOne .any shapeOps.toArray 96 23 = true := by kernel_rfl
theorem shape_l24 : lexOne .any shapeOps.toArray 96 24 = true := by kernel_rfl
theorem shape_l25 : lexOne .any shapeOps.toArray 96 25 = true := by kernel_rfl
theorem shape_l26 : lexOne .any shapeOps.toArray 96 26 = true := by kernel_rfl
theorem shape_l27 : lexOne .any shapeOps.toArray 96 27 = true := by kernel_rfl
theorem shape_l28 : lexOne .any shapeOps.toArray 96 28 = true := by kernel_rfl
theorem shape_l29 : lexOne .any shapeOps.toArray 96 29 = true := by kernel_rfl
theorem shape_l30 : lexOne .any shapeOps.toArray 96 30 = true := by kernel_rfl
theorem shape_l31 : lexOne .any shapeOps.toArray 96 31 = true := by kernel_rfl
theorem shape_l32 : lexOne .any shapeOps.toArray 96 32 = true := by kernel_rfl
theorem shape_l33 : lexOne .any shapeOps.toArray 96 33 = true := by kernel_rfl
theorem shape_l34 : lexOne .any shapeOps.toArray 96 34 = true := by kernel_rfl
theorem shape_l35 : lexOne .any shapeOps.toArray 96 35 = true := by kernel_rfl
theorem shape_l36 : lexOne .any shapeOps.toArray 96 36 = true := by kernel_rfl
theorem shape_l37 : lexOne .any shapeOps.toArray 96 37 = true := by kernel_rfl
theorem shape_l38 : lexOne .any shapeOps.toArray 96 38 = true := by kernel_rfl
theorem shape_l39 : lexOne .any shapeOps.toArray 96 39 = true := by kernel_rfl
theorem shape_l40 : lexOne .any shapeOps.toArray 96 40 = true := by kernel_rfl
theorem shape_l41 : lexOne .any shapeOps.toArray 96 41 = true := by kernel_rfl
theorem shape_l42 : lexOne .any shapeOps.toArray 96 42 = true := by kernel_rfl
theorem shape_l43 : lexOne .any shapeOps.toArray 96 43 = true := by kernel_rfl
theorem shape_l44 : lexOne .any shapeOps.toArray 96 44 = true := by kernel_rfl
theorem shape_l45 : lexOne .any shapeOps.toArray 96 45 = true := by kernel_rfl
theorem shape_l46 : lexOne .any shapeOps.toArray 96 46 = true := by kernel_rfl
theorem shape_l47 : lexOne .any shapeOps.toArray 96 47 = true := by kernel_rfl
theorem shape_l48 : lexOne .any shapeOps.toArray 96 48 = true := by kernel_rfl
theorem shape_l49 : lexOne .any shapeOps.toArray 96 49 = true := by kernel_rfl
theorem shape_l50 : lexOne .any shapeOps.toArray 96 50 = true := by kernel_rfl
theorem shape_l51 : lexOne .any shapeOps.toArray 96 51 = true := by kernel_rfl
theorem shape_l52 : lexOne .any shapeOps.toArray 96 52 = true := by kernel_rfl
theorem shape_l53 : lexOne .any shapeOps.toArray 96 53 = true := by kernel_rfl
theorem shape_l54 : lexOne .any shapeOps.toArray 96 54 = true := by kernel_rfl
theorem shape_l55 : lexOne .any shapeOps.toArray 96 55 = true := by kernel_rfl
theorem shape_l56 : lexOne .any shapeOps.toArray 96 56 = true := by kernel_rfl
theorem shape_l57 : lexOne .any shapeOps.toArray 96 57 = true := by kernel_rfl
theorem shape_l58 : lexOne .any shapeOps.toArray 96 58 = true := by kernel_rfl
theorem shape_l59 : lexOne .any shapeOps.toArray 96 59 = true := by kernel_rfl
theorem shape_l60 : lexOne .any shapeOps.toArray 96 60 = true := by kernel_rfl
theorem shape_l61 : lexOne .any shapeOps.toArray 96 61 = true := by kernel_rfl
theorem shape_l62 : lexOne .any shapeOps.toArray 96 62 = true := by kernel_rfl
theorem shape_l63 : lexOne .any shapeOps.toArray 96 63 = true := by kernel_rfl
theorem shape_l64 : lexOne .any shapeOps.toArray 96 64 = true := by kernel_rfl
theorem shape_l65 : lexOne .any shapeOps.toArray 96 65 = true := by kernel_rfl
theorem shape_l66 : lexOne .any shapeOps.toArray 96 66 = true := by kernel_rfl
theorem shape_l67 : lexOne .any shapeOps.toArray 96 67 = true := by kernel_rfl
theorem shape_l68 : lexOne .any shapeOps.toArray 96 68 = true := by kernel_rfl
theorem shape_l69 : lexOne .any shapeOps.toArray 96 69 = true := by kernel_rfl
theorem shape_l70 : lexOne .any shapeOps.toArray 96 70 = true := by kernel_rfl
theorem shape_l71 : lexOne .any shapeOps.toArray 96 71 = true := by kernel_rfl
theorem shape_l72 : lexOne .any shapeOps.toArray 96 72 = true := by kernel_rfl
theorem shape_l73 : lexOne .any shapeOps.toArray 96 73 = true := by kernel_rfl
theorem shape_l74 : lexOne .any shapeOps.toArray 96 74 = true := by kernel_rfl
theorem shape_l75 : lexOne .any shapeOps.toArray 96 75 = true := by kernel_rfl
theorem shape_l76 : lexOne .any shapeOps.toArray 96 76 = true := by kernel_rfl
theorem shape_l77 : lexOne .any shapeOps.toArray 96 77 = true := by kernel_rfl
theorem shape_l78 : lexOne .any shapeOps.toArray 96 78 = true := by kernel_rfl
theorem shape_l79 : lexOne .any shapeOps.toArray 96 79 = true := by kernel_rfl
theorem shape_l80 : lexOne .any shapeOps.toArray 96 80 = true := by kernel_rfl
theorem shape_l81 : lexOne .any shapeOps.toArray 96 81 = true := by kernel_rfl
theorem shape_l82 : lexOne .any shapeOps.toArray 96 82 = true := by kernel_rfl
theorem shape_l83 : lexOne .any shapeOps.toArray 96 83 = true := by kernel_rfl
theorem shape_l84 : lexOne .any shapeOps.toArray 96 84 = true := by kernel_rfl
theorem shape_l85 : lexOne .any shapeOps.toArray 96 85 = true := by kernel_rfl
theorem shape_l86 : lexOne .any shapeOps.toArray 96 86 = true := by kernel_rfl
theorem shape_l87 : lexOne .any shapeOps.toArray 96 87 = true := by kernel_rfl
theorem shape_l88 : lexOne .any shapeOps.toArray 96 88 = true := by kernel_rfl
theorem shape_l89 : lexOne .any shapeOps.toArray 96 89 = true := by kernel_rfl
theorem shape_l90 : lexOne .any shapeOps.toArray 96 90 = true := by kernel_rfl
theorem shape_l91 : lexOne .any shapeOps.toArray 96 91 = true := by kernel_rfl
theorem shape_l92 : lexOne .any shapeOps.toArray 96 92 = true := by kernel_rfl
theorem shape_l93 : lexOne .any shapeOps.toArray 96 93 = true := by kernel_rfl
theorem shape_l94 : lexOne .any shapeOps.toArray 96 94 = true := by kernel_rfl
theorem shape_l95 : lexOne .any shapeOps.toArray 96 95 = true := by kernel_rfl
theorem shape_lex : Region.lexB .any shapeOps.toArray = true := by
  refine lexB_of _ _ 96 shape_size shape_sel (fun k hk => ?_) shape_end
  match k, hk with
  | 0, _ => exact shape_l0
  | 1, _ => exact shape_l1
  | 2, _ => exact shape_l2
  | 3, _ => exact shape_l3
  | 4, _ => exact shape_l4
  | 5, _ => exact shape_l5
  | 6, _ => exact shape_l6
  | 7, _ => exact shape_l7
  | 8, _ => exact shape_l8
  | 9, _ => exact shape_l9
  | 10, _ => exact shape_l10
  | 11, _ => exact shape_l11
  | 12, _ => exact shape_l12
  | 13, _ => exact shape_l13
  | 14, _ => exact shape_l14
  | 15, _ => exact shape_l15
  | 16, _ => exact shape_l16
  | 17, _ => exact shape_l17
  | 18, _ => exact shape_l18
  | 19, _ => exact shape_l19
  | 20, _ => exact shape_l20
  | 21, _ => exact shape_l21
  | 22, _ => exact shape_l22
  | 23, _ => exact shape_l23
  | 24, _ => exact shape_l24
  | 25, _ => exact shape_l25
  | 26, _ => exact shape_l26
  | 27, _ => exact shape_l27
  | 28, _ => exact shape_l28
  | 29, _ => exact shape_l29
  | 30, _ => exact shape_l30
  | 31, _ => exact shape_l31
  | 32, _ => exact shape_l32
  | 33, _ => exact shape_l33
  | 34, _ => exact shape_l34
  | 35, _ => exact shape_l35
  | 36, _ => exact shape_l36
  | 37, _ => exact shape_l37
  | 38, _ => exact shape_l38
  | 39, _ => exact shape_l39
  | 40, _ => exact shape_l40
  | 41, _ => exact shape_l41
  | 42, _ => exact shape_l42
  | 43, _ => exact shape_l43
  | 44, _ => exact shape_l44
  | 45, _ => exact shape_l45
  | 46, _ => exact shape_l46
  | 47, _ => exact shape_l47
  | 48, _ => exact shape_l48
  | 49, _ => exact shape_l49
  | 50, _ => exact shape_l50
  | 51, _ => exact shape_l51
  | 52, _ => exact shape_l52
  | 53, _ => exact shape_l53
  | 54, _ => exact shape_l54
  | 55, _ => exact shape_l55
  | 56, _ => exact shape_l56
  | 57, _ => exact shape_l57
  | 58, _ => exact shape_l58
  | 59, _ => exact shape_l59
  | 60, _ => exact shape_l60
  | 61, _ => exact shape_l61
  | 62, _ => exact shape_l62
  | 63, _ => exact shape_l63
  | 64, _ => exact shape_l64
  | 65, _ => exact shape_l65
  | 66, _ => exact shape_l66
  | 67, _ => exact shape_l67
  | 68, _ => exact shape_l68
  | 69, _ => exact shape_l69
  | 70, _ => exact shape_l70
  | 71, _ => exact shape_l71
  | 72, _ => exact shape_l72
  | 73, _ => exact shape_l73
  | 74, _ => exact shape_l74
  | 75, _ => exact shape_l75
  | 76, _ => exact shape_l76
  | 77, _ => exact shape_l77
  | 78, _ => exact shape_l78
  | 79, _ => exact shape_l79
  | 80, _ => exact shape_l80
  | 81, _ => exact shape_l81
  | 82, _ => exact shape_l82
  | 83, _ => exact shape_l83
  | 84, _ => exact shape_l84
  | 85, _ => exact shape_l85
  | 86, _ => exact shape_l86
  | 87, _ => exact shape_l87
  | 88, _ => exact shape_l88
  | 89, _ => exact shape_l89
  | 90, _ => exact shape_l90
  | 91, _ => exact shape_l91
  | 92, _ => exact shape_l92
  | 93, _ => exact shape_l93
  | 94, _ => exact shape_l94
  | 95, _ => exact shape_l95
  | n + 96, h => omega
end Go.Proofs.YtpbfhkkecbnieaaDoor
