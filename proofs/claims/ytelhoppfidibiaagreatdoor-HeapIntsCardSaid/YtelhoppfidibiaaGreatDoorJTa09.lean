/- The closed fact of Memory.shape's long region. -/
import Derived.Test.YtelhoppfidibiaaGreatDoorJTa08
import Derived.Test.YtelhoppfidibiaaGreatDoorJTa03
import Derived.IntWalk
import Derived.Test.YtelhoppfidibiaaGreatDoorJTa07
import Derived.Laws.EntriesVeiled
import Derived.Deep.RegionHeld3
import Derived.Deep.QuietTactic
import Derived.BigQuiet
set_option linter.unusedSimpArgs false
set_option linter.unusedVariables false
set_option maxHeartbeats 4000000
set_option maxRecDepth 100000
namespace Go.Proofs.YtelhoppfidibiaaGreatDoor
noncomputable def shapeOps:List Oper:=regOf Tryz.f134 2
theorem shape_size:shapeOps.toArray.size=96:=by kernel_rfl
theorem shape_sel:Region.noSelect shapeOps.toArray=true:=by kernel_rfl
theorem shape_end:(Region.ready .any shapeOps.toArray (lst 96 96)).isEmpty=true:=by kernel_rfl
theorem shape_l0:lexOne .any shapeOps.toArray 96 0=true:=by kernel_rfl
theorem shape_l1:lexOne .any shapeOps.toArray 96 1=true:=by kernel_rfl
theorem shape_l2:lexOne .any shapeOps.toArray 96 2=true:=by kernel_rfl
theorem shape_l3:lexOne .any shapeOps.toArray 96 3=true:=by kernel_rfl
theorem shape_l4:lexOne .any shapeOps.toArray 96 4=true:=by kernel_rfl
theorem shape_l5:lexOne .any shapeOps.toArray 96 5=true:=by kernel_rfl
theorem shape_l6:lexOne .any shapeOps.toArray 96 6=true:=by kernel_rfl
theorem shape_l7:lexOne .any shapeOps.toArray 96 7=true:=by kernel_rfl
theorem shape_l8:lexOne .any shapeOps.toArray 96 8=true:=by kernel_rfl
theorem shape_l9:lexOne .any shapeOps.toArray 96 9=true:=by kernel_rfl
theorem shape_l10:lexOne .any shapeOps.toArray 96 10=true:=by kernel_rfl
theorem shape_l11:lexOne .any shapeOps.toArray 96 11=true:=by kernel_rfl
theorem shape_l12:lexOne .any shapeOps.toArray 96 12=true:=by kernel_rfl
theorem shape_l13:lexOne .any shapeOps.toArray 96 13=true:=by kernel_rfl
theorem shape_l14:lexOne .any shapeOps.toArray 96 14=true:=by kernel_rfl
theorem shape_l15:lexOne .any shapeOps.toArray 96 15=true:=by kernel_rfl
theorem shape_l16:lexOne .any shapeOps.toArray 96 16=true:=by kernel_rfl
theorem shape_l17:lexOne .any shapeOps.toArray 96 17=true:=by kernel_rfl
theorem shape_l18:lexOne .any shapeOps.toArray 96 18=true:=by kernel_rfl
theorem shape_l19:lexOne .any shapeOps.toArray 96 19=true:=by kernel_rfl
theorem shape_l20:lexOne .any shapeOps.toArray 96 20=true:=by kernel_rfl
theorem shape_l21:lexOne .any shapeOps.toArray 96 21=true:=by kernel_rfl
theorem shape_l22:lexOne .any shapeOps.toArray 96 22=true:=by kernel_rfl
theorem shape_l23:lexOne .any shapeOps.toArray 96 23=true:=by kernel_rfl
theorem shape_l24:lexOne .any shapeOps.toArray 96 24=true:=by kernel_rfl
theorem shape_l25:lexOne .any shapeOps.toArray 96 25=true:=by kernel_rfl
theorem shape_l26:lexOne .any shapeOps.toArray 96 26=true:=by kernel_rfl
theorem shape_l27:lexOne .any shapeOps.toArray 96 27=true:=by kernel_rfl
theorem shape_l28:lexOne .any shapeOps.toArray 96 28=true:=by kernel_rfl
theorem shape_l29:lexOne .any shapeOps.toArray 96 29=true:=by kernel_rfl
theorem shape_l30:lexOne .any shapeOps.toArray 96 30=true:=by kernel_rfl
theorem shape_l31:lexOne .any shapeOps.toArray 96 31=true:=by kernel_rfl
theorem shape_l32:lexOne .any shapeOps.toArray 96 32=true:=by kernel_rfl
theorem shape_l33:lexOne .any shapeOps.toArray 96 33=true:=by kernel_rfl
theorem shape_l34:lexOne .any shapeOps.toArray 96 34=true:=by kernel_rfl
theorem shape_l35:lexOne .any shapeOps.toArray 96 35=true:=by kernel_rfl
theorem shape_l36:lexOne .any shapeOps.toArray 96 36=true:=by kernel_rfl
theorem shape_l37:lexOne .any shapeOps.toArray 96 37=true:=by kernel_rfl
theorem shape_l38:lexOne .any shapeOps.toArray 96 38=true:=by kernel_rfl
theorem shape_l39:lexOne .any shapeOps.toArray 96 39=true:=by kernel_rfl
theorem shape_l40:lexOne .any shapeOps.toArray 96 40=true:=by kernel_rfl
theorem shape_l41:lexOne .any shapeOps.toArray 96 41=true:=by kernel_rfl
theorem shape_l42:lexOne .any shapeOps.toArray 96 42=true:=by kernel_rfl
theorem shape_l43:lexOne .any shapeOps.toArray 96 43=true:=by kernel_rfl
theorem shape_l44:lexOne .any shapeOps.toArray 96 44=true:=by kernel_rfl
theorem shape_l45:lexOne .any shapeOps.toArray 96 45=true:=by kernel_rfl
theorem shape_l46:lexOne .any shapeOps.toArray 96 46=true:=by kernel_rfl
theorem shape_l47:lexOne .any shapeOps.toArray 96 47=true:=by kernel_rfl
theorem shape_l48:lexOne .any shapeOps.toArray 96 48=true:=by kernel_rfl
theorem shape_l49:lexOne .any shapeOps.toArray 96 49=true:=by kernel_rfl
theorem shape_l50:lexOne .any shapeOps.toArray 96 50=true:=by kernel_rfl
theorem shape_l51:lexOne .any shapeOps.toArray 96 51=true:=by kernel_rfl
theorem shape_l52:lexOne .any shapeOps.toArray 96 52=true:=by kernel_rfl
theorem shape_l53:lexOne .any shapeOps.toArray 96 53=true:=by kernel_rfl
theorem shape_l54:lexOne .any shapeOps.toArray 96 54=true:=by kernel_rfl
theorem shape_l55:lexOne .any shapeOps.toArray 96 55=true:=by kernel_rfl
theorem shape_l56:lexOne .any shapeOps.toArray 96 56=true:=by kernel_rfl
theorem shape_l57:lexOne .any shapeOps.toArray 96 57=true:=by kernel_rfl
theorem shape_l58:lexOne .any shapeOps.toArray 96 58=true:=by kernel_rfl
theorem shape_l59:lexOne .any shapeOps.toArray 96 59=true:=by kernel_rfl
theorem shape_l60:lexOne .any shapeOps.toArray 96 60=true:=by kernel_rfl
theorem shape_l61:lexOne .any shapeOps.toArray 96 61=true:=by kernel_rfl
theorem shape_l62:lexOne .any shapeOps.toArray 96 62=true:=by kernel_rfl
theorem shape_l63:lexOne .any shapeOps.toArray 96 63=true:=by kernel_rfl
theorem shape_l64:lexOne .any shapeOps.toArray 96 64=true:=by kernel_rfl
theorem shape_l65:lexOne .any shapeOps.toArray 96 65=true:=by kernel_rfl
theorem shape_l66:lexOne .any shapeOps.toArray 96 66=true:=by kernel_rfl
theorem shape_l67:lexOne .any shapeOps.toArray 96 67=true:=by kernel_rfl
theorem shape_l68:lexOne .any shapeOps.toArray 96 68=true:=by kernel_rfl
theorem shape_l69:lexOne .any shapeOps.toArray 96 69=true:=by kernel_rfl
theorem shape_l70:lexOne .any shapeOps.toArray 96 70=true:=by kernel_rfl
theorem shape_l71:lexOne .any shapeOps.toArray 96 71=true:=by kernel_rfl
theorem shape_l72:lexOne .any shapeOps.toArray 96 72=true:=by kernel_rfl
theorem shape_l73:lexOne .any shapeOps.toArray 96 73=true:=by kernel_rfl
theorem shape_l74:lexOne .any shapeOps.toArray 96 74=true:=by kernel_rfl
theorem shape_l75:lexOne .any shapeOps.toArray 96 75=true:=by kernel_rfl
theorem shape_l76:lexOne .any shapeOps.toArray 96 76=true:=by kernel_rfl
theorem shape_l77:lexOne .any shapeOps.toArray 96 77=true:=by kernel_rfl
theorem shape_l78:lexOne .any shapeOps.toArray 96 78=true:=by kernel_rfl
theorem shape_l79:lexOne .any shapeOps.toArray 96 79=true:=by kernel_rfl
theorem shape_l80:lexOne .any shapeOps.toArray 96 80=true:=by kernel_rfl
theorem shape_l81:lexOne .any shapeOps.toArray 96 81=true:=by kernel_rfl
theorem shape_l82:lexOne .any shapeOps.toArray 96 82=true:=by kernel_rfl
theorem shape_l83:lexOne .any shapeOps.toArray 96 83=true:=by kernel_rfl
theorem shape_l84:lexOne .any shapeOps.toArray 96 84=true:=by kernel_rfl
theorem shape_l85:lexOne .any shapeOps.toArray 96 85=true:=by kernel_rfl
theorem shape_l86:lexOne .any shapeOps.toArray 96 86=true:=by kernel_rfl
theorem shape_l87:lexOne .any shapeOps.toArray 96 87=true:=by kernel_rfl
theorem shape_l88:lexOne .any shapeOps.toArray 96 88=true:=by kernel_rfl
theorem shape_l89:lexOne .any shapeOps.toArray 96 89=true:=by kernel_rfl
theorem shape_l90:lexOne .any shapeOps.toArray 96 90=true:=by kernel_rfl
theorem shape_l91:lexOne .any shapeOps.toArray 96 91=true:=by kernel_rfl
theorem shape_l92:lexOne .any shapeOps.toArray 96 92=true:=by kernel_rfl
theorem shape_l93:lexOne .any shapeOps.toArray 96 93=true:=by kernel_rfl
theorem shape_l94:lexOne .any shapeOps.toArray 96 94=true:=by kernel_rfl
theorem shape_l95:lexOne .any shapeOps.toArray 96 95=true:=by kernel_rfl
theorem shape_lex:Region.lexB .any shapeOps.toArray=true:=by
 refine lexB_of _ _ 96 shape_size shape_sel (fun k hk=>?_) shape_end
 match k,hk with
 | 0,_=>exact shape_l0
 | 1,_=>exact shape_l1
 | 2,_=>exact shape_l2
 | 3,_=>exact shape_l3
 | 4,_=>exact shape_l4
 | 5,_=>exact shape_l5
 | 6,_=>exact shape_l6
 | 7,_=>exact shape_l7
 | 8,_=>exact shape_l8
 | 9,_=>exact shape_l9
 | 10,_=>exact shape_l10
 | 11,_=>exact shape_l11
 | 12,_=>exact shape_l12
 | 13,_=>exact shape_l13
 | 14,_=>exact shape_l14
 | 15,_=>exact shape_l15
 | 16,_=>exact shape_l16
 | 17,_=>exact shape_l17
 | 18,_=>exact shape_l18
 | 19,_=>exact shape_l19
 | 20,_=>exact shape_l20
 | 21,_=>exact shape_l21
 | 22,_=>exact shape_l22
 | 23,_=>exact shape_l23
 | 24,_=>exact shape_l24
 | 25,_=>exact shape_l25
 | 26,_=>exact shape_l26
 | 27,_=>exact shape_l27
 | 28,_=>exact shape_l28
 | 29,_=>exact shape_l29
 | 30,_=>exact shape_l30
 | 31,_=>exact shape_l31
 | 32,_=>exact shape_l32
 | 33,_=>exact shape_l33
 | 34,_=>exact shape_l34
 | 35,_=>exact shape_l35
 | 36,_=>exact shape_l36
 | 37,_=>exact shape_l37
 | 38,_=>exact shape_l38
 | 39,_=>exact shape_l39
 | 40,_=>exact shape_l40
 | 41,_=>exact shape_l41
 | 42,_=>exact shape_l42
 | 43,_=>exact shape_l43
 | 44,_=>exact shape_l44
 | 45,_=>exact shape_l45
 | 46,_=>exact shape_l46
 | 47,_=>exact shape_l47
 | 48,_=>exact shape_l48
 | 49,_=>exact shape_l49
 | 50,_=>exact shape_l50
 | 51,_=>exact shape_l51
 | 52,_=>exact shape_l52
 | 53,_=>exact shape_l53
 | 54,_=>exact shape_l54
 | 55,_=>exact shape_l55
 | 56,_=>exact shape_l56
 | 57,_=>exact shape_l57
 | 58,_=>exact shape_l58
 | 59,_=>exact shape_l59
 | 60,_=>exact shape_l60
 | 61,_=>exact shape_l61
 | 62,_=>exact shape_l62
 | 63,_=>exact shape_l63
 | 64,_=>exact shape_l64
 | 65,_=>exact shape_l65
 | 66,_=>exact shape_l66
 | 67,_=>exact shape_l67
 | 68,_=>exact shape_l68
 | 69,_=>exact shape_l69
 | 70,_=>exact shape_l70
 | 71,_=>exact shape_l71
 | 72,_=>exact shape_l72
 | 73,_=>exact shape_l73
 | 74,_=>exact shape_l74
 | 75,_=>exact shape_l75
 | 76,_=>exact shape_l76
 | 77,_=>exact shape_l77
 | 78,_=>exact shape_l78
 | 79,_=>exact shape_l79
 | 80,_=>exact shape_l80
 | 81,_=>exact shape_l81
 | 82,_=>exact shape_l82
 | 83,_=>exact shape_l83
 | 84,_=>exact shape_l84
 | 85,_=>exact shape_l85
 | 86,_=>exact shape_l86
 | 87,_=>exact shape_l87
 | 88,_=>exact shape_l88
 | 89,_=>exact shape_l89
 | 90,_=>exact shape_l90
 | 91,_=>exact shape_l91
 | 92,_=>exact shape_l92
 | 93,_=>exact shape_l93
 | 94,_=>exact shape_l94
 | 95,_=>exact shape_l95
 | n+96,h=>omega
open Go.RowKit
theorem rng_any (a lo hi:Int) (w:World):Calls Tryz.prog 159 #[.int .i64 a,.int .i64 lo,.int .i64 hi] w fun e w'=>e=.returned (.bool (inR a lo hi))∧w'=w:=by
 by_cases h:lo≤a
 ·have e:inR a lo hi=decide (a≤hi):=by simp[inR,h]
  rw[e]
  go_enter Tryz.func159,Tryz.ntmps159
  go_wp2
  go_ret
  exact⟨rfl,rfl⟩
 ·have e:inR a lo hi=false:=by simp[inR,h]
  rw[e]
  go_enter Tryz.func159,Tryz.ntmps159
  go_wp2
  go_ret
  exact⟨rfl,rfl⟩
theorem lexB_eq {l l':List Oper} (h:l=l') (hB:Region.lexB .any l'.toArray=true):Region.lexB .any l.toArray=true:=h ▸ hB
theorem rng_lit {a lo hi:Int} {r:Bool} (h:inR a lo hi=r) (w:World):Calls Tryz.prog 159 #[.int .i64 a,.int .i64 lo,.int .i64 hi] w fun e w'=>e=.returned (.bool r)∧w'=w:=by
 rw[←h];exact rng_any a lo hi w
theorem shape_0 (w:World) (b o:Nat) (M:Mem) (S:Sls) (hM:RMem w b o M S) (h0:inR M.half 1 65536=false) :
  Calls Tryz.prog 134 #[.pointer (some ⟨b,o,none⟩)] w fun e w'=>e=.returned (.bool false)∧∃ n,w'=w.drewN n:=by
 have c_half:=hM.half
 have c_old:=hM.old
 have c_card:=hM.card
 have c_W:=hM.W
 have c_used:=hM.used
 have c_top:=hM.top
 have c_oldTop:=hM.oldTop
 have c_cards:=hM.cards
 have hl:=hM.ok.lenW
 have hl2:=hM.ok.lenC
 clear hM
 go_enter Tryz.func134,Tryz.ntmps134
 go_wp2_with (go_at_call 159;refine (rng_any _ _ _ _).mono ?_;rintro e w' ⟨rfl,rfl⟩)
 simp only[List.append_eq,List.cons_append,List.nil_append]
 refine wp_region_quiet_lit (by kernel_rfl) (lexB_eq (by kernel_rfl) shape_lex) ?_
 repeat (go_big_quiet_step ((go_at_call 159;first|(with_reducible exact Calls.quiet_of_same (rng_lit h0 _)))))
 refine wpQuiet_nil ?_
 intro _ hw'
 obtain⟨nq,hw''⟩:=hw'
 subst hw''
 go_wp2
 go_ret
 exact⟨rfl,_,rfl⟩
theorem shape_1 (w:World) (b o:Nat) (M:Mem) (S:Sls) (hM:RMem w b o M S) (h0:inR M.half 1 65536=true) (h1:inR M.old 1 65536=false) :
  Calls Tryz.prog 134 #[.pointer (some ⟨b,o,none⟩)] w fun e w'=>e=.returned (.bool false)∧∃ n,w'=w.drewN n:=by
 have c_half:=hM.half
 have c_old:=hM.old
 have c_card:=hM.card
 have c_W:=hM.W
 have c_used:=hM.used
 have c_top:=hM.top
 have c_oldTop:=hM.oldTop
 have c_cards:=hM.cards
 have hl:=hM.ok.lenW
 have hl2:=hM.ok.lenC
 obtain⟨b1,b2⟩:=inR_true.1 h0
 clear hM
 go_enter Tryz.func134,Tryz.ntmps134
 go_wp2_with (go_at_call 159;refine (rng_any _ _ _ _).mono ?_;rintro e w' ⟨rfl,rfl⟩)
 simp only[List.append_eq,List.cons_append,List.nil_append]
 refine wp_region_quiet_lit (by kernel_rfl) (lexB_eq (by kernel_rfl) shape_lex) ?_
 repeat (go_big_quiet_step ((go_at_call 159;first|(with_reducible exact Calls.quiet_of_same (rng_lit h0 _))|(with_reducible exact Calls.quiet_of_same (rng_lit h1 _)))))
 refine wpQuiet_nil ?_
 intro _ hw'
 obtain⟨nq,hw''⟩:=hw'
 subst hw''
 go_wp2
 go_ret
 exact⟨rfl,_,rfl⟩
theorem shape_2 (w:World) (b o:Nat) (M:Mem) (S:Sls) (hM:RMem w b o M S) (h0:inR M.half 1 65536=true) (h1:inR M.old 1 65536=true) (h2:inR M.card 1 1024=false) :
  Calls Tryz.prog 134 #[.pointer (some ⟨b,o,none⟩)] w fun e w'=>e=.returned (.bool false)∧∃ n,w'=w.drewN n:=by
 have c_half:=hM.half
 have c_old:=hM.old
 have c_card:=hM.card
 have c_W:=hM.W
 have c_used:=hM.used
 have c_top:=hM.top
 have c_oldTop:=hM.oldTop
 have c_cards:=hM.cards
 have hl:=hM.ok.lenW
 have hl2:=hM.ok.lenC
 obtain⟨b1,b2⟩:=inR_true.1 h0
 obtain⟨b3,b4⟩:=inR_true.1 h1
 clear hM
 go_enter Tryz.func134,Tryz.ntmps134
 go_wp2_with (go_at_call 159;refine (rng_any _ _ _ _).mono ?_;rintro e w' ⟨rfl,rfl⟩)
 simp only[List.append_eq,List.cons_append,List.nil_append]
 refine wp_region_quiet_lit (by kernel_rfl) (lexB_eq (by kernel_rfl) shape_lex) ?_
 repeat (go_big_quiet_step ((go_at_call 159;first|(with_reducible exact Calls.quiet_of_same (rng_lit h0 _))|(with_reducible exact Calls.quiet_of_same (rng_lit h1 _))|(with_reducible exact Calls.quiet_of_same (rng_lit h2 _)))))
 refine wpQuiet_nil ?_
 intro _ hw'
 obtain⟨nq,hw''⟩:=hw'
 subst hw''
 go_wp2
 go_ret
 exact⟨rfl,_,rfl⟩
theorem shape_3 (w:World) (b o:Nat) (M:Mem) (S:Sls) (hM:RMem w b o M S) (h0:inR M.half 1 65536=true) (h1:inR M.old 1 65536=true) (h2:inR M.card 1 1024=true) (h3:((M.W.length:Int)==2*M.half+M.old)=false) :
  Calls Tryz.prog 134 #[.pointer (some ⟨b,o,none⟩)] w fun e w'=>e=.returned (.bool false)∧∃ n,w'=w.drewN n:=by
 have c_half:=hM.half
 have c_old:=hM.old
 have c_card:=hM.card
 have c_W:=hM.W
 have c_used:=hM.used
 have c_top:=hM.top
 have c_oldTop:=hM.oldTop
 have c_cards:=hM.cards
 have hl:=hM.ok.lenW
 have hl2:=hM.ok.lenC
 obtain⟨b1,b2⟩:=inR_true.1 h0
 obtain⟨b3,b4⟩:=inR_true.1 h1
 obtain⟨b5,b6⟩:=inR_true.1 h2
 have e0:IntKind.i64.wrap (2*M.half)=2*M.half:=IntWalk.i64_in _ (by omega)
 have e1:IntKind.i64.wrap (2*M.half+M.old)=2*M.half+M.old:=IntWalk.i64_in _ (by omega)
 clear hM
 go_enter Tryz.func134,Tryz.ntmps134
 go_wp2_with (go_at_call 159;refine (rng_any _ _ _ _).mono ?_;rintro e w' ⟨rfl,rfl⟩)
 simp only[List.append_eq,List.cons_append,List.nil_append]
 refine wp_region_quiet_lit (by kernel_rfl) (lexB_eq (by kernel_rfl) shape_lex) ?_
 repeat (go_big_quiet_step ((go_at_call 159;first|(with_reducible exact Calls.quiet_of_same (rng_lit h0 _))|(with_reducible exact Calls.quiet_of_same (rng_lit h1 _))|(with_reducible exact Calls.quiet_of_same (rng_lit h2 _)))))
 refine wpQuiet_nil ?_
 intro _ hw'
 obtain⟨nq,hw''⟩:=hw'
 subst hw''
 go_wp2
 go_ret
 exact⟨rfl,_,rfl⟩
theorem shape_4 (w:World) (b o:Nat) (M:Mem) (S:Sls) (hM:RMem w b o M S) (h0:inR M.half 1 65536=true) (h1:inR M.old 1 65536=true) (h2:inR M.card 1 1024=true) (h3:((M.W.length:Int)==2*M.half+M.old)=true) (h4:inR M.used 0 1=false) :
  Calls Tryz.prog 134 #[.pointer (some ⟨b,o,none⟩)] w fun e w'=>e=.returned (.bool false)∧∃ n,w'=w.drewN n:=by
 have c_half:=hM.half
 have c_old:=hM.old
 have c_card:=hM.card
 have c_W:=hM.W
 have c_used:=hM.used
 have c_top:=hM.top
 have c_oldTop:=hM.oldTop
 have c_cards:=hM.cards
 have hl:=hM.ok.lenW
 have hl2:=hM.ok.lenC
 obtain⟨b1,b2⟩:=inR_true.1 h0
 obtain⟨b3,b4⟩:=inR_true.1 h1
 obtain⟨b5,b6⟩:=inR_true.1 h2
 have e0:IntKind.i64.wrap (2*M.half)=2*M.half:=IntWalk.i64_in _ (by omega)
 have e1:IntKind.i64.wrap (2*M.half+M.old)=2*M.half+M.old:=IntWalk.i64_in _ (by omega)
 clear hM
 go_enter Tryz.func134,Tryz.ntmps134
 go_wp2_with (go_at_call 159;refine (rng_any _ _ _ _).mono ?_;rintro e w' ⟨rfl,rfl⟩)
 simp only[List.append_eq,List.cons_append,List.nil_append]
 refine wp_region_quiet_lit (by kernel_rfl) (lexB_eq (by kernel_rfl) shape_lex) ?_
 repeat (go_big_quiet_step ((go_at_call 159;first|(with_reducible exact Calls.quiet_of_same (rng_lit h0 _))|(with_reducible exact Calls.quiet_of_same (rng_lit h1 _))|(with_reducible exact Calls.quiet_of_same (rng_lit h2 _))|(with_reducible exact Calls.quiet_of_same (rng_lit h4 _)))))
 refine wpQuiet_nil ?_
 intro _ hw'
 obtain⟨nq,hw''⟩:=hw'
 subst hw''
 go_wp2
 go_ret
 exact⟨rfl,_,rfl⟩
theorem shape_5 (w:World) (b o:Nat) (M:Mem) (S:Sls) (hM:RMem w b o M S) (h0:inR M.half 1 65536=true) (h1:inR M.old 1 65536=true) (h2:inR M.card 1 1024=true) (h3:((M.W.length:Int)==2*M.half+M.old)=true) (h4:inR M.used 0 1=true) (h5:inR M.top 0 M.half=false) :
  Calls Tryz.prog 134 #[.pointer (some ⟨b,o,none⟩)] w fun e w'=>e=.returned (.bool false)∧∃ n,w'=w.drewN n:=by
 have c_half:=hM.half
 have c_old:=hM.old
 have c_card:=hM.card
 have c_W:=hM.W
 have c_used:=hM.used
 have c_top:=hM.top
 have c_oldTop:=hM.oldTop
 have c_cards:=hM.cards
 have hl:=hM.ok.lenW
 have hl2:=hM.ok.lenC
 obtain⟨b1,b2⟩:=inR_true.1 h0
 obtain⟨b3,b4⟩:=inR_true.1 h1
 obtain⟨b5,b6⟩:=inR_true.1 h2
 have e0:IntKind.i64.wrap (2*M.half)=2*M.half:=IntWalk.i64_in _ (by omega)
 have e1:IntKind.i64.wrap (2*M.half+M.old)=2*M.half+M.old:=IntWalk.i64_in _ (by omega)
 clear hM
 go_enter Tryz.func134,Tryz.ntmps134
 go_wp2_with (go_at_call 159;refine (rng_any _ _ _ _).mono ?_;rintro e w' ⟨rfl,rfl⟩)
 simp only[List.append_eq,List.cons_append,List.nil_append]
 refine wp_region_quiet_lit (by kernel_rfl) (lexB_eq (by kernel_rfl) shape_lex) ?_
 repeat (go_big_quiet_step ((go_at_call 159;first|(with_reducible exact Calls.quiet_of_same (rng_lit h0 _))|(with_reducible exact Calls.quiet_of_same (rng_lit h1 _))|(with_reducible exact Calls.quiet_of_same (rng_lit h2 _))|(with_reducible exact Calls.quiet_of_same (rng_lit h4 _))|(with_reducible exact Calls.quiet_of_same (rng_lit h5 _)))))
 refine wpQuiet_nil ?_
 intro _ hw'
 obtain⟨nq,hw''⟩:=hw'
 subst hw''
 go_wp2
 go_ret
 exact⟨rfl,_,rfl⟩
theorem shape_6 (w:World) (b o:Nat) (M:Mem) (S:Sls) (hM:RMem w b o M S) (h0:inR M.half 1 65536=true) (h1:inR M.old 1 65536=true) (h2:inR M.card 1 1024=true) (h3:((M.W.length:Int)==2*M.half+M.old)=true) (h4:inR M.used 0 1=true) (h5:inR M.top 0 M.half=true) (h6:inR M.oldTop 0 M.old=false) :
  Calls Tryz.prog 134 #[.pointer (some ⟨b,o,none⟩)] w fun e w'=>e=.returned (.bool false)∧∃ n,w'=w.drewN n:=by
 have c_half:=hM.half
 have c_old:=hM.old
 have c_card:=hM.card
 have c_W:=hM.W
 have c_used:=hM.used
 have c_top:=hM.top
 have c_oldTop:=hM.oldTop
 have c_cards:=hM.cards
 have hl:=hM.ok.lenW
 have hl2:=hM.ok.lenC
 obtain⟨b1,b2⟩:=inR_true.1 h0
 obtain⟨b3,b4⟩:=inR_true.1 h1
 obtain⟨b5,b6⟩:=inR_true.1 h2
 have e0:IntKind.i64.wrap (2*M.half)=2*M.half:=IntWalk.i64_in _ (by omega)
 have e1:IntKind.i64.wrap (2*M.half+M.old)=2*M.half+M.old:=IntWalk.i64_in _ (by omega)
 clear hM
 go_enter Tryz.func134,Tryz.ntmps134
 go_wp2_with (go_at_call 159;refine (rng_any _ _ _ _).mono ?_;rintro e w' ⟨rfl,rfl⟩)
 simp only[List.append_eq,List.cons_append,List.nil_append]
 refine wp_region_quiet_lit (by kernel_rfl) (lexB_eq (by kernel_rfl) shape_lex) ?_
 repeat (go_big_quiet_step ((go_at_call 159;first|(with_reducible exact Calls.quiet_of_same (rng_lit h0 _))|(with_reducible exact Calls.quiet_of_same (rng_lit h1 _))|(with_reducible exact Calls.quiet_of_same (rng_lit h2 _))|(with_reducible exact Calls.quiet_of_same (rng_lit h4 _))|(with_reducible exact Calls.quiet_of_same (rng_lit h5 _))|(with_reducible exact Calls.quiet_of_same (rng_lit h6 _)))))
 refine wpQuiet_nil ?_
 intro _ hw'
 obtain⟨nq,hw''⟩:=hw'
 subst hw''
 go_wp2
 go_ret
 exact⟨rfl,_,rfl⟩
theorem shape_7 (w:World) (b o:Nat) (M:Mem) (S:Sls) (hM:RMem w b o M S) (h0:inR M.half 1 65536=true) (h1:inR M.old 1 65536=true) (h2:inR M.card 1 1024=true) (h3:((M.W.length:Int)==2*M.half+M.old)=true) (h4:inR M.used 0 1=true) (h5:inR M.top 0 M.half=true) (h6:inR M.oldTop 0 M.old=true) (h7:((M.cards.length:Int)==(M.old+M.card-1)/M.card)=false) :
  Calls Tryz.prog 134 #[.pointer (some ⟨b,o,none⟩)] w fun e w'=>e=.returned (.bool false)∧∃ n,w'=w.drewN n:=by
 have c_half:=hM.half
 have c_old:=hM.old
 have c_card:=hM.card
 have c_W:=hM.W
 have c_used:=hM.used
 have c_top:=hM.top
 have c_oldTop:=hM.oldTop
 have c_cards:=hM.cards
 have hl:=hM.ok.lenW
 have hl2:=hM.ok.lenC
 obtain⟨b1,b2⟩:=inR_true.1 h0
 obtain⟨b3,b4⟩:=inR_true.1 h1
 obtain⟨b5,b6⟩:=inR_true.1 h2
 have e0:IntKind.i64.wrap (2*M.half)=2*M.half:=IntWalk.i64_in _ (by omega)
 have e1:IntKind.i64.wrap (2*M.half+M.old)=2*M.half+M.old:=IntWalk.i64_in _ (by omega)
 have e2:IntKind.i64.wrap (M.old+M.card)=M.old+M.card:=IntWalk.i64_in _ (by omega)
 have e3:IntKind.i64.wrap (M.old+M.card-1)=M.old+M.card-1:=IntWalk.i64_in _ (by omega)
 have e4:(M.old+M.card-1).tdiv M.card=(M.old+M.card-1)/M.card:=Int.tdiv_eq_ediv_of_nonneg (by omega)
 have e6:0≤(M.old+M.card-1)/M.card:=Int.ediv_nonneg (by omega) (by omega)
 have e7:(M.old+M.card-1)/M.card≤M.old+M.card-1:=Int.ediv_le_self _ (by omega)
 have e5:IntKind.i64.wrap ((M.old+M.card-1)/M.card)=(M.old+M.card-1)/M.card:=IntWalk.i64_in _ (by omega)
 have e8:(M.card==0)=false:=by simp;omega
 clear e6 e7
 clear hM
 go_enter Tryz.func134,Tryz.ntmps134
 go_wp2_with (go_at_call 159;refine (rng_any _ _ _ _).mono ?_;rintro e w' ⟨rfl,rfl⟩)
 simp only[List.append_eq,List.cons_append,List.nil_append]
 refine wp_region_quiet_lit (by kernel_rfl) (lexB_eq (by kernel_rfl) shape_lex) ?_
 repeat (go_big_quiet_step ((go_at_call 159;first|(with_reducible exact Calls.quiet_of_same (rng_lit h0 _))|(with_reducible exact Calls.quiet_of_same (rng_lit h1 _))|(with_reducible exact Calls.quiet_of_same (rng_lit h2 _))|(with_reducible exact Calls.quiet_of_same (rng_lit h4 _))|(with_reducible exact Calls.quiet_of_same (rng_lit h5 _))|(with_reducible exact Calls.quiet_of_same (rng_lit h6 _)))))
 refine wpQuiet_nil ?_
 intro _ hw'
 obtain⟨nq,hw''⟩:=hw'
 subst hw''
 go_wp2
 go_ret
 exact⟨rfl,_,rfl⟩
theorem shape_8 (w:World) (b o:Nat) (M:Mem) (S:Sls) (hM:RMem w b o M S) (h0:inR M.half 1 65536=true) (h1:inR M.old 1 65536=true) (h2:inR M.card 1 1024=true) (h3:((M.W.length:Int)==2*M.half+M.old)=true) (h4:inR M.used 0 1=true) (h5:inR M.top 0 M.half=true) (h6:inR M.oldTop 0 M.old=true) (h7:((M.cards.length:Int)==(M.old+M.card-1)/M.card)=true) :
  Calls Tryz.prog 134 #[.pointer (some ⟨b,o,none⟩)] w fun e w'=>e=.returned (.bool true)∧∃ n,w'=w.drewN n:=by
 have c_half:=hM.half
 have c_old:=hM.old
 have c_card:=hM.card
 have c_W:=hM.W
 have c_used:=hM.used
 have c_top:=hM.top
 have c_oldTop:=hM.oldTop
 have c_cards:=hM.cards
 have hl:=hM.ok.lenW
 have hl2:=hM.ok.lenC
 obtain⟨b1,b2⟩:=inR_true.1 h0
 obtain⟨b3,b4⟩:=inR_true.1 h1
 obtain⟨b5,b6⟩:=inR_true.1 h2
 have e0:IntKind.i64.wrap (2*M.half)=2*M.half:=IntWalk.i64_in _ (by omega)
 have e1:IntKind.i64.wrap (2*M.half+M.old)=2*M.half+M.old:=IntWalk.i64_in _ (by omega)
 have e2:IntKind.i64.wrap (M.old+M.card)=M.old+M.card:=IntWalk.i64_in _ (by omega)
 have e3:IntKind.i64.wrap (M.old+M.card-1)=M.old+M.card-1:=IntWalk.i64_in _ (by omega)
 have e4:(M.old+M.card-1).tdiv M.card=(M.old+M.card-1)/M.card:=Int.tdiv_eq_ediv_of_nonneg (by omega)
 have e6:0≤(M.old+M.card-1)/M.card:=Int.ediv_nonneg (by omega) (by omega)
 have e7:(M.old+M.card-1)/M.card≤M.old+M.card-1:=Int.ediv_le_self _ (by omega)
 have e5:IntKind.i64.wrap ((M.old+M.card-1)/M.card)=(M.old+M.card-1)/M.card:=IntWalk.i64_in _ (by omega)
 have e8:(M.card==0)=false:=by simp;omega
 clear e6 e7
 clear hM
 go_enter Tryz.func134,Tryz.ntmps134
 go_wp2_with (go_at_call 159;refine (rng_any _ _ _ _).mono ?_;rintro e w' ⟨rfl,rfl⟩)
 simp only[List.append_eq,List.cons_append,List.nil_append]
 refine wp_region_quiet_lit (by kernel_rfl) (lexB_eq (by kernel_rfl) shape_lex) ?_
 repeat (go_big_quiet_step ((go_at_call 159;first|(with_reducible exact Calls.quiet_of_same (rng_lit h0 _))|(with_reducible exact Calls.quiet_of_same (rng_lit h1 _))|(with_reducible exact Calls.quiet_of_same (rng_lit h2 _))|(with_reducible exact Calls.quiet_of_same (rng_lit h4 _))|(with_reducible exact Calls.quiet_of_same (rng_lit h5 _))|(with_reducible exact Calls.quiet_of_same (rng_lit h6 _)))))
 refine wpQuiet_nil ?_
 intro _ hw'
 obtain⟨nq,hw''⟩:=hw'
 subst hw''
 go_wp2
 go_ret
 exact⟨rfl,_,rfl⟩
theorem shape_any (w:World) (b o:Nat) (M:Mem) (S:Sls) (hM:RMem w b o M S) :
  Calls Tryz.prog 134 #[.pointer (some ⟨b,o,none⟩)] w fun e w'=>e=.returned (.bool (shapeB M))∧∃ n,w'=w.drewN n:=by
 rcases Bool.eq_false_or_eq_true (inR M.half 1 65536) with h0|h0
 rotate_left
 ·have e:shapeB M=false:=by unfold shapeB;rw[h0];simp
  rw[e];exact shape_0 w b o M S hM h0
 rcases Bool.eq_false_or_eq_true (inR M.old 1 65536) with h1|h1
 rotate_left
 ·have e:shapeB M=false:=by unfold shapeB;rw[h0,h1];simp
  rw[e];exact shape_1 w b o M S hM h0 h1
 rcases Bool.eq_false_or_eq_true (inR M.card 1 1024) with h2|h2
 rotate_left
 ·have e:shapeB M=false:=by unfold shapeB;rw[h0,h1,h2];simp
  rw[e];exact shape_2 w b o M S hM h0 h1 h2
 rcases Bool.eq_false_or_eq_true (((M.W.length:Int)==2*M.half+M.old)) with h3|h3
 rotate_left
 ·have e:shapeB M=false:=by unfold shapeB;rw[h0,h1,h2,h3];simp
  rw[e];exact shape_3 w b o M S hM h0 h1 h2 h3
 rcases Bool.eq_false_or_eq_true (inR M.used 0 1) with h4|h4
 rotate_left
 ·have e:shapeB M=false:=by unfold shapeB;rw[h0,h1,h2,h3,h4];simp
  rw[e];exact shape_4 w b o M S hM h0 h1 h2 h3 h4
 rcases Bool.eq_false_or_eq_true (inR M.top 0 M.half) with h5|h5
 rotate_left
 ·have e:shapeB M=false:=by unfold shapeB;rw[h0,h1,h2,h3,h4,h5];simp
  rw[e];exact shape_5 w b o M S hM h0 h1 h2 h3 h4 h5
 rcases Bool.eq_false_or_eq_true (inR M.oldTop 0 M.old) with h6|h6
 rotate_left
 ·have e:shapeB M=false:=by unfold shapeB;rw[h0,h1,h2,h3,h4,h5,h6];simp
  rw[e];exact shape_6 w b o M S hM h0 h1 h2 h3 h4 h5 h6
 rcases Bool.eq_false_or_eq_true (((M.cards.length:Int)==(M.old+M.card-1)/M.card)) with h7|h7
 rotate_left
 ·have e:shapeB M=false:=by unfold shapeB;rw[h0,h1,h2,h3,h4,h5,h6,h7];simp
  rw[e];exact shape_7 w b o M S hM h0 h1 h2 h3 h4 h5 h6 h7
 have e:shapeB M=true:=by unfold shapeB;rw[h0,h1,h2,h3,h4,h5,h6,h7];rfl
 rw[e];exact shape_8 w b o M S hM h0 h1 h2 h3 h4 h5 h6 h7
theorem SMap.made_ {w w':World} {b:Nat} (q:IntKind) (hb:w.heap.size=b) (hx:Ext (w.alloc (.map #[] 0)) w'):SMap w' b q []:=by
 subst hb;exact (SMap.made w q).ext hx
theorem check_a (b o:Nat) (M:Mem) (S:Sls) (gb gs gp:Addr) (w:World) (hM:RMem w b o M S) (hG:GBound w gb) (hS:GShape w gs) (hs:shapeB M=true) (h1:objsB M (okHd M)=false) :
  Calls Tryz.prog 90 #[.pointer (some ⟨b,o,none⟩)] w fun e w'=>e=.returned (errV gs)∧Ext w w':=by
 have hh:=shp_of hs
 have hmm:=@run_makeMap Tryz.prog
 have HM:=Lib.hid hM
 have HG:=Lib.hid hG
 have HH:=Lib.hid hh
 have hltb:=hM.lt
 have hltg:=cell_lt hS
 simp only at hltg
 clear hM hG hh
 go_enter Tryz.func90,Tryz.ntmps90
 go_wp2_with (first
  | (go_at_call 134;refine (shape_any _ b o M S ?_).mono ?_;(exact HM.out.ext ((Ext.refl w).alloc_ _));rintro e w' ⟨rfl,n,rfl⟩;rw[hs]))
 refine (objects_c1 w b o M S HH.out HM.out gb gs HG.out hS (w.heap.size+1) (w.heap.size+1+1) w.heap.size _ ?_ (by omega) (by omega) (by omega) ?_ ?_ ?_).mono ?_
 ·repeat (first|exact Ext.refl _|(refine Ext.set_ ?_ (by simp) _)|(refine Ext.alloc_ ?_ _)|(refine Ext.drewN_ ?_ _))
 ·exact SMap.made_ (w:=(w.alloc _).drewN n) _ (by simp) (by repeat (first|exact Ext.refl _|(refine Ext.set_ ?_ (by simp) _)|(refine Ext.alloc_ ?_ _)))
 ·simp[go_sem]
 ·simp[go_sem]
 rintro e w1 ⟨rfl,hsm,hK⟩
 rw[h1]
 have hx:Ext w w1:=Ext.keep (by repeat (first|exact Ext.refl _|(refine Ext.set_ ?_ (by simp) _)|(refine Ext.alloc_ ?_ _)|(refine Ext.drewN_ ?_ _))) hK (fun i hi=>by omega)
 have hS1:GShape w1 gs:=hx.cell_ hS
 clear hsm hK
 go_wp2
 go_ret
 exact⟨rfl,hx⟩
def freshM (M:Mem) (kind size:Int):Mem:={M with W:=M.W.set (M.base+M.top.toNat) (headW kind 0 0 size),top:=M.top+1+size}
def FreshPost (w:World) (B b:Nat) (M:Mem) (S:Sls) (kind size:Int) (e:Ending) (w':World):Prop :=
 e=.returned (.int .i64 ((M.base+M.top.toNat:Nat):Int))∧OMem w' B b 140 (freshM M kind size) S∧Keep (OwnL b S) w w'
theorem fresh_obj (B b:Nat) (M:Mem) (S:Sls) (w:World) (hO:OMem w B b 140 M S) (hok:M.Ok) (hs:Shp M) (kind size:Int) (hk:0≤kind∧kind≤255) (hz:0≤size∧size≤4096) (hr:M.top+1+size≤M.half) :
  Calls Tryz.prog 87 #[.pointer (some ⟨b,0,none⟩),.int .i64 kind,.int .i64 size] w (FreshPost w B b M S kind size):=by
 obtain⟨hb,b0,b1⟩:=hs.base
 have s1:=hs.h1
 have s2:=hs.h2
 have s3:=hs.t1
 have s4:=hs.t2
 have s7:=hs.o1
 have s8:=hs.w
 obtain⟨k0,k1⟩:=hk
 obtain⟨z0,z1⟩:=hz
 obtain⟨t,ht⟩:∃ t:Nat,M.top=t:=⟨M.top.toNat,by omega⟩
 obtain⟨at_,hat⟩:∃ a:Nat,a=M.base+t:=⟨_,rfl⟩
 have hlen:at_<M.W.length:=by omega
 obtain⟨g,hg,hgB,hgl,hgf,hgc,cur,hgh,-,-⟩:=own_block hO.fW (by omega)
 have hM:=hO.mem hok
 have c3:=hM.W
 have c5:=hM.top
 simp only[Nat.zero_add] at c3 c5
 rw[hg] at c3
 rw[ht] at c5
 have hgb:g≠b:=fun e=>(hO.fld ⟨3,78,1,S.W.1,M.W.length,S.W.2,wcells M.W⟩ (by simp[memFlds])).2.2 (by simp[Fld.val,hg,Value.ownBlock,e])
 have hcell:w.cell? ⟨g,at_,none⟩=some (.int .u64 (M.W.getD at_ 0)):=by
  have:=hM.rW
  rw[hg] at this
  simpa using this.at_ (wcells_at M.W at_ hlen)
 have hfb:=hO.frozen 5
 have hfg:=hgf at_
 have hlb:=OM.lt hO
 have e1:IntKind.i64.wrap ((M.base:Int)+(t:Int))=(at_:Int):=by rw[IntWalk.i64_in _ (by omega)];omega
 have e2:IntKind.i64.wrap (1+size)=1+size:=IntWalk.i64_in _ (by omega)
 have e3:IntKind.i64.wrap ((t:Int)+(1+size))=(t:Int)+1+size:=by rw[IntWalk.i64_in _ (by omega)];omega
 have HS:=Lib.hid hs
 have HM:=Lib.hid hM
 have HO:=Lib.hid hO
 have HG:=Lib.hid hg
 have HT:=Lib.hid ht
 have HAT:=Lib.hid hat
 have E1:=Lib.hid e1
 clear hs hM hO hg ht hat hb hgh hgf s8 e1
 go_enter Tryz.func87,Tryz.ntmps87
 go_wp2
 refine wp_region_held_drew (S:=fun W=>W.cell? ⟨b,5,none⟩=some (.int .i64 (t:Int))) (by kernel_rfl) ?_ (fun hHeld=>?_)
 ·exact c5
 refine tk 0 ⟨some 8,_,_,_,_,_⟩ ?_ rfl ?_ ?_
 rotate_left
 ·(intro w hSw;(try dsimp only at hSw);go_simp;try with_reducible rfl)
 try simp only[tkS]
 refine tk 2 ⟨some 10,_,_,_,_,_⟩ ?_ rfl ?_ ?_
 rotate_left
 ·(intro w hSw;(try dsimp only at hSw);go_simp;try with_reducible rfl)
 try simp only[tkS]
 refine tk 3 ⟨some 11,_,_,_,_,_⟩ ?_ rfl ?_ ?_
 rotate_left
 ·(intro w hSw;(try dsimp only at hSw);go_simp;try with_reducible rfl)
 try simp only[tkS]
 refine tk 4 ⟨some 12,_,_,_,_,_⟩ ?_ rfl ?_ ?_
 rotate_left
 ·(intro w hSw;(try dsimp only at hSw);go_simp;try with_reducible rfl)
 try simp only[tkS]
 refine tk 5 ⟨some 13,_,_,_,_,_⟩ ?_ rfl ?_ ?_
 rotate_left
 ·(intro w hSw;(try dsimp only at hSw);go_simp;try with_reducible rfl)
 try simp only[tkS]
 refine wpAnyH_ready (rs:=[1]) (by kernel_rfl) (by simp) ?_
 refine AllReadyH.cons (o:=⟨some 9,_,_,_,_,_⟩) rfl (fun K hK=>?_) AllReadyH.nil
 go_simp
 refine (base_any _ b 0 M S (HM.out.ext (by repeat (first|exact Ext.refl _|(refine Ext.drew_ ?_)|(refine Ext.drewN_ ?_ _)))) HS.out).mono ?_
 rintro e w' ⟨rfl,n,rfl⟩
 refine hK.out _ _ ?_ (fun hHeld=>?_)
 ·(try dsimp only);exact c5
 clear hK K
 try simp only[tkS]
 refine tk 6 ⟨some 14,_,_,_,_,_⟩ (.int .i64 (at_:Int)) rfl ?_ ?_
 ·(intro w hSw;go_simp;rw[E1.out])
 try simp only[tkS]
 refine tk 7 ⟨some 7,_,_,_,_,_⟩ ?_ rfl ?_ ?_
 rotate_left
 ·(intro w hSw;(try dsimp only at hSw);go_simp;try with_reducible rfl)
 try simp only[tkS]
 refine wpAnyH_done (by kernel_rfl) ?_ _
 go_wp2
 refine named_world' (fun W1 hW1=>?_)
 have hE1:Ext w W1:=by rw[hW1];repeat (first|exact Ext.refl _|(refine Ext.drew_ ?_)|(refine Ext.drewN_ ?_ _))
 have HE1:=Lib.hid hE1
 have d3:=hE1.cell_ c3
 clear hW1 hE1 hHeld
 refine wp_region_held_drew (S:=fun W=>W.cell? ⟨b,3,none⟩=some (.slice (some ⟨g,0,none⟩) M.W.length S.W.2)) (by kernel_rfl) ?_ (fun hHeld=>?_)
 ·exact d3
 refine tk 0 ⟨some 15,_,_,_,_,_⟩ ?_ rfl ?_ ?_
 rotate_left
 ·(intro w hSw;(try dsimp only at hSw);go_simp;try with_reducible rfl)
 try simp only[tkS]
 refine tk 1 ⟨some 16,_,_,_,_,_⟩ ?_ rfl ?_ ?_
 rotate_left
 ·(intro w hSw;(try dsimp only at hSw);go_simp;try with_reducible rfl)
 try simp only[tkS]
 refine tk 2 ⟨some 17,_,_,_,_,_⟩ ?_ rfl ?_ ?_
 rotate_left
 ·(intro w hSw;(try dsimp only at hSw);go_simp;try with_reducible rfl)
 try simp only[tkS]
 refine tk 3 ⟨some 18,_,_,_,_,_⟩ ?_ rfl ?_ ?_
 rotate_left
 ·(intro w hSw;(try dsimp only at hSw);go_simp;try with_reducible rfl)
 try simp only[tkS]
 refine tk 4 ⟨some 19,_,_,_,_,_⟩ ?_ rfl ?_ ?_
 rotate_left
 ·(intro w hSw;(try dsimp only at hSw);go_simp;try with_reducible rfl)
 try simp only[tkS]
 refine tk 5 ⟨some 20,_,_,_,_,_⟩ ?_ rfl ?_ ?_
 rotate_left
 ·(intro w hSw;(try dsimp only at hSw);go_simp;try with_reducible rfl)
 try simp only[tkS]
 refine tk 6 ⟨some 21,_,_,_,_,_⟩ ?_ rfl ?_ ?_
 rotate_left
 ·(intro w hSw;(try dsimp only at hSw);go_simp;try with_reducible rfl)
 try simp only[tkS]
 refine tk 7 ⟨some 22,_,_,_,_,_⟩ ?_ rfl ?_ ?_
 rotate_left
 ·(intro w hSw;(try dsimp only at hSw);go_simp;try with_reducible rfl)
 try simp only[tkS]
 refine wpAnyH_ready (rs:=[8]) (by kernel_rfl) (by simp) ?_
 refine AllReadyH.cons (o:=⟨some 23,_,_,_,_,_⟩) rfl (fun K hK=>?_) AllReadyH.nil
 go_simp
 refine (headWord_any kind 0 0 size ⟨k0,k1⟩ (by omega) (by omega) ⟨z0,z1⟩ _).mono ?_
 rintro e w2 ⟨rfl,hq⟩
 have HE2:Hid (Ext w w2):=Ext.trans_ (by first|exact HE1.out|exact HE1.out.drew_|exact HE1.out.drewN_ _) hq
 clear hq
 have g3:=HE2.out.cell_ c3
 have gc:=HE2.out.cell_ hcell
 have gf:w2.frozen? ⟨g,at_,none⟩=false:=by rw[HE2.out.three.2.1 _ _ hgl];exact hfg
 refine hK.out _ _ ?_ (fun hHeld=>?_)
 ·(try dsimp only);exact g3
 clear hK K
 try simp only[tkS]
 refine tk 9 ⟨some 24,_,_,_,_,_⟩ ?_ rfl ?_ ?_
 rotate_left
 ·(intro w hSw;(try dsimp only at hSw);go_simp;try with_reducible rfl)
 try simp only[tkS]
 refine wpAnyH_ready (rs:=[10]) (by kernel_rfl) (by simp) ?_
 refine AllReadyH.cons (o:=⟨none,_,_,_,_,_⟩) rfl (fun K hK=>?_) AllReadyH.nil
 go_simp
 skip
 refine hK.out _ _ ?_ (fun hHeld=>?_)
 ·(try dsimp only);rw[World.cell?_setCell_far _ _ _ _ (by simp;omega)];exact g3
 clear hK K
 try simp only[tkS]
 refine wpAnyH_done (by kernel_rfl) ?_ _
 clear hHeld
 generalize hW4:w2.setCell ⟨g,at_,none⟩ (Value.int .u64 (headW kind 0 0 size))=W4
 have hO4:OMem W4 B b 140 {M with W:=M.W.set at_ (headW kind 0 0 size)} S:=by
  rw[←hW4];exact OMem.setW (OM.ext HO.out HE2.out) HG.out at_ hlen _
 have hK4:Keep (OwnL b S) w W4:=by
  rw[←hW4];exact (Keep.of_ext HE2.out).set_ (Or.inl (Or.inr (Or.inl HG.out))) _
 have n5:W4.cell? ⟨b,5,none⟩=some (.int .i64 (t:Int)):=by
  have:=hO4.num (5,M.top) (by simp[memNums])
  rw[HT.out] at this
  exact this
 have f5:=hO4.frozen 5
 have l5:=OM.lt hO4
 have HO4:=Lib.hid hO4
 have HK4:=Lib.hid hK4
 clear hO4 hK4 g3 gc gf hW4
 go_wp2
 go_ret
 have hfin:=OMem.setTop HO4.out ((t:Int)+1+size)
 have hT:=HT.out
 have hA:M.base+M.top.toNat=at_:=by rw[HAT.out,hT];rfl
 refine⟨by rw[hA];rfl,?_,HK4.out.set_ (Or.inl (Or.inl rfl)) _⟩
 unfold freshM
 rw[hA,hT]
 exact hfin
end Go.Proofs.YtelhoppfidibiaaGreatDoor
