/- The walk of Memory.Check: where a root, a weak word or a field is wrong. -/
import Derived.Test.YtelhoppfidibiaaGreatDoorJTa09
import Derived.Laws.EntriesVeiled
import Derived.Test.YtelhoppfidibiaaGreatDoorJTa07
set_option linter.unusedSimpArgs false
set_option linter.unusedVariables false
set_option maxHeartbeats 4000000
set_option maxRecDepth 100000
namespace Go.Proofs.YtelhoppfidibiaaGreatDoor
open Go.RowKit
theorem named_world {P:Program} {c:Code} {Q:Exit→Act→World→Prop} {a:Act} {W:World} (h:∀ W9,W9=W→Code.wp P c Q a W9):Code.wp P c Q a W:=h W rfl
theorem check_b1 (b o:Nat) (M:Mem) (S:Sls) (gb gs gp:Addr) (w:World) (hM:RMem w b o M S) (hG:GBound w gb) (hS:GShape w gs) (hP:GPlace w gp) (hs:shapeB M=true) (h1:objsB M (okHd M)=true) (h2:fieldsB (startsM M) M.roots=false) :
  Calls Tryz.prog 90 #[.pointer (some ⟨b,o,none⟩)] w fun e w'=>e=.returned (errV gs)∧Ext w w':=by
 have hh:=shp_of hs
 have hmm:=@run_makeMap Tryz.prog
 have HM:=Lib.hid hM
 have HG:=Lib.hid hG
 have HH:=Lib.hid hh
 have HS:=Lib.hid hS
 have HP:=Lib.hid hP
 have H1:=Lib.hid h1
 have HR:=Lib.hid h2
 clear h2
 have hltb:=hM.lt
 have hltg:=cell_lt hS
 have hltp:=cell_lt hP
 simp only at hltg hltp
 clear hM hG hh hP
 go_enter Tryz.func90,Tryz.ntmps90
 go_wp2_with (first
  | (go_at_call 134;refine (shape_any _ b o M S ?_).mono ?_;(exact HM.out.ext ((Ext.refl w).alloc_ _));rintro e w' ⟨rfl,n,rfl⟩;rw[hs]))
 refine (objects_c1 w b o M S HH.out HM.out gb gs HG.out hS (w.heap.size+1) (w.heap.size+1+1) w.heap.size _ ?_ (by omega) (by omega) (by omega) ?_ ?_ ?_).mono ?_
 ·repeat (first|exact Ext.refl _|(refine Ext.set_ ?_ (by simp) _)|(refine Ext.alloc_ ?_ _)|(refine Ext.drewN_ ?_ _))
 ·exact SMap.made_ (w:=(w.alloc _).drewN n) _ (by simp) (by repeat (first|exact Ext.refl _|(refine Ext.set_ ?_ (by simp) _)|(refine Ext.alloc_ ?_ _)))
 ·simp[go_sem]
 ·simp[go_sem]
 rintro e w1 ⟨rfl,hsm,hK⟩
 rw[h1]
 have hx:Ext w w1:=Ext.keep (by repeat (first|exact Ext.refl _|(refine Ext.set_ ?_ (by simp) _)|(refine Ext.alloc_ ?_ _)|(refine Ext.drewN_ ?_ _))) hK (fun i hi=>by omega)
 have f1:w1.cell? ⟨w.heap.size,0,none⟩=some (.pointer (some ⟨b,o,none⟩)):=hK.cell (by simp) (by simp[go_sem])
 have f3:w1.cell? ⟨w.heap.size+1+1,0,none⟩=some (.map (some (w.heap.size+1))):=hK.cell (by simp) (by simp[go_sem])
 have z1:w.heap.size+1+1<w1.heap.size:=by have:=hK.size;simp at this;omega
 have HX1:=Lib.hid hx
 have HSM:=Lib.hid (hsm h1)
 clear hsm hK hx hS h1
 go_wp2
 refine named_world (fun W9 hW9=>?_)
 have g5:W9.cell? ⟨w1.heap.size+1,0,none⟩=some (.func (.func 139) #[] #[.pointer (some ⟨w1.heap.size,0,none⟩)]):=by rw[hW9];simp[go_sem]
 have g4:W9.cell? ⟨w1.heap.size,0,none⟩=some (.func (.func 137) #[] #[.pointer (some ⟨w.heap.size+1+1,0,none⟩)]):=by rw[hW9];simp[go_sem]
 have g6:W9.cell? ⟨w1.heap.size+1+1,0,none⟩=some (.bool true):=by rw[hW9];simp[go_sem]
 have u6:W9.frozen? ⟨w1.heap.size+1+1,0,none⟩=false:=by rw[hW9];simp[go_sem]
 have hx9:Ext w1 W9:=by rw[hW9];repeat (first|exact Ext.refl _|(refine Ext.alloc_ ?_ _))
 have g1:=hx9.cell_ f1
 have g3:=hx9.cell_ f3
 have hsm9:=HSM.out.ext hx9
 have hxx:Ext w W9:=Ext.trans_ HX1.out hx9
 have hM9:=HM.out.ext hxx
 have gr:=hM9.roots
 have gk:=hM9.weak
 have z9:w1.heap.size+1+1<W9.heap.size:=cell_lt g6
 have G3:=Lib.hid g3
 have G4:=Lib.hid g4
 have G6:=Lib.hid g6
 have U6:=Lib.hid u6
 have SM9:=Lib.hid hsm9
 have HX9:=Lib.hid hxx
 clear hW9 hx9 f1 f3 g3 g4 g6 u6 hsm9 hxx hM9 HSM
 refine wp_region_held_drew (S:=fun W=>W.cell? ⟨w1.heap.size+1,0,none⟩=some (.func (.func 139) #[] #[.pointer (some ⟨w1.heap.size,0,none⟩)])∧W.cell? ⟨w.heap.size,0,none⟩=some (.pointer (some ⟨b,o,none⟩))∧W.cell? ⟨b,o+7,none⟩=some (.slice S.R.1 M.roots.length S.R.2)∧W.cell? ⟨b,o+8,none⟩=some (.slice S.K.1 M.weak.length S.K.2)) (by kernel_rfl) ?_ (fun hHeld=>?_)
 ·exact⟨g5,g1,gr,gk⟩
 refine tk 0 ⟨some 27,_,_,_,_,_⟩ ?_ rfl ?_ ?_
 rotate_left
 ·(intro w hSw;(try dsimp only at hSw);go_simp;try with_reducible rfl)
 try simp only[tkS]
 refine tk 1 ⟨some 28,_,_,_,_,_⟩ ?_ rfl ?_ ?_
 rotate_left
 ·(intro w hSw;(try dsimp only at hSw);go_simp;try with_reducible rfl)
 try simp only[tkS]
 refine tk 2 ⟨some 29,_,_,_,_,_⟩ ?_ rfl ?_ ?_
 rotate_left
 ·(intro w hSw;(try dsimp only at hSw);go_simp;try with_reducible rfl)
 try simp only[tkS]
 refine tk 3 ⟨some 30,_,_,_,_,_⟩ ?_ rfl ?_ ?_
 rotate_left
 ·(intro w hSw;(try dsimp only at hSw);go_simp;try with_reducible rfl)
 try simp only[tkS]
 refine tk 4 ⟨some 31,_,_,_,_,_⟩ ?_ rfl ?_ ?_
 rotate_left
 ·(intro w hSw;(try dsimp only at hSw);go_simp;try with_reducible rfl)
 try simp only[tkS]
 refine wpAnyH_ready (rs:=[5]) (by kernel_rfl) (by simp) ?_
 refine AllReadyH.cons (o:=⟨some 32,_,_,_,_,_⟩) rfl (fun K hK=>?_) AllReadyH.nil
 go_simp
 refine (c3_any S.R.1 S.R.2 M.roots ?_ ?_ (w.heap.size+1) (w.heap.size+1+1) w1.heap.size (startsM M) _ ?_ ?_ ?_ ?_).mono ?_
 ·exact HM.out.ok.lenR
 ·exact HM.out.ok.roots
 ·exact (HM.out.ext (Ext.trans_ HX9.out (by repeat (first|exact Ext.refl _|(refine Ext.drew_ ?_))))).rR
 ·exact SM9.out.ext (by repeat (first|exact Ext.refl _|(refine Ext.drew_ ?_)))
 ·exact Ext.cell_ (by repeat (first|exact Ext.refl _|(refine Ext.drew_ ?_))) G3.out
 ·exact Ext.cell_ (by repeat (first|exact Ext.refl _|(refine Ext.drew_ ?_))) G4.out
 rintro e w2 ⟨he,hq⟩
 rw[HR.out] at he
 subst he
 have HE2:Hid (Ext W9 w2):=Ext.trans_ (by repeat (first|exact Ext.refl _|(refine Ext.drew_ ?_))) hq
 have d2:=hq.cell_ hHeld.1
 have d2a:=hq.cell_ hHeld.2.1
 have d2b:=hq.cell_ hHeld.2.2.1
 have d2c:=hq.cell_ hHeld.2.2.2
 clear hq
 refine hK.out _ _ ?_ (fun hHeld=>?_)
 ·(try dsimp only);exact⟨d2,d2a,d2b,d2c⟩
 clear hK K
 try simp only[tkS]
 refine tk 6 ⟨some 33,_,_,_,_,_⟩ ?_ rfl ?_ ?_
 rotate_left
 ·(intro w hSw;(try dsimp only at hSw);go_simp;try with_reducible rfl)
 try simp only[tkS]
 refine tk 7 ⟨some 34,_,_,_,_,_⟩ ?_ rfl ?_ ?_
 rotate_left
 ·(intro w hSw;(try dsimp only at hSw);go_simp;try with_reducible rfl)
 try simp only[tkS]
 refine tn 8 ⟨some 35,_,_,_,_,_⟩ rfl ?_
 try simp only[tkS]
 refine tn 9 ⟨some 36,_,_,_,_,_⟩ rfl ?_
 try simp only[tkS]
 refine tn 10 ⟨some 37,_,_,_,_,_⟩ rfl ?_
 try simp only[tkS]
 refine tn 11 ⟨some 38,_,_,_,_,_⟩ rfl ?_
 try simp only[tkS]
 refine tn 12 ⟨some 39,_,_,_,_,_⟩ rfl ?_
 try simp only[tkS]
 refine tn 13 ⟨some 40,_,_,_,_,_⟩ rfl ?_
 try simp only[tkS]
 refine tn 14 ⟨some 41,_,_,_,_,_⟩ rfl ?_
 try simp only[tkS]
 refine tk 15 ⟨some 42,_,_,_,_,_⟩ ?_ rfl ?_ ?_
 rotate_left
 ·(intro w hSw;(try dsimp only at hSw);go_simp;try with_reducible rfl)
 try simp only[tkS]
 refine tk 16 ⟨some 43,_,_,_,_,_⟩ ?_ rfl ?_ ?_
 rotate_left
 ·(intro w hSw;(try dsimp only at hSw);go_simp;try with_reducible rfl)
 try simp only[tkS]
 refine tn 17 ⟨some 44,_,_,_,_,_⟩ rfl ?_
 try simp only[tkS]
 refine tn 18 ⟨some 45,_,_,_,_,_⟩ rfl ?_
 try simp only[tkS]
 refine tn 19 ⟨some 46,_,_,_,_,_⟩ rfl ?_
 try simp only[tkS]
 refine tn 20 ⟨some 47,_,_,_,_,_⟩ rfl ?_
 try simp only[tkS]
 refine tk 21 ⟨some 48,_,_,_,_,_⟩ ?_ rfl ?_ ?_
 rotate_left
 ·(intro w hSw;(try dsimp only at hSw);go_simp;try with_reducible rfl)
 try simp only[tkS]
 refine wpAnyH_done (by kernel_rfl) ?_ _
 have hx:Ext w w2:=Ext.trans_ HX9.out HE2.out
 have hS1:GShape w2 gs:=hx.cell_ HS.out
 go_wp2
 go_ret
 exact⟨rfl,hx⟩
theorem check_b2 (b o:Nat) (M:Mem) (S:Sls) (gb gs gp:Addr) (w:World) (hM:RMem w b o M S) (hG:GBound w gb) (hS:GShape w gs) (hP:GPlace w gp) (hs:shapeB M=true) (h1:objsB M (okHd M)=true) (h2:fieldsB (startsM M) M.roots=true) (h3:fieldsB (startsM M) M.weak=false) :
  Calls Tryz.prog 90 #[.pointer (some ⟨b,o,none⟩)] w fun e w'=>e=.returned (errV gs)∧Ext w w':=by
 have hh:=shp_of hs
 have hmm:=@run_makeMap Tryz.prog
 have HM:=Lib.hid hM
 have HG:=Lib.hid hG
 have HH:=Lib.hid hh
 have HS:=Lib.hid hS
 have HP:=Lib.hid hP
 have H1:=Lib.hid h1
 have HR:=Lib.hid h2
 have HW:=Lib.hid h3
 clear h2 h3
 have hltb:=hM.lt
 have hltg:=cell_lt hS
 have hltp:=cell_lt hP
 simp only at hltg hltp
 clear hM hG hh hP
 go_enter Tryz.func90,Tryz.ntmps90
 go_wp2_with (first
  | (go_at_call 134;refine (shape_any _ b o M S ?_).mono ?_;(exact HM.out.ext ((Ext.refl w).alloc_ _));rintro e w' ⟨rfl,n,rfl⟩;rw[hs]))
 refine (objects_c1 w b o M S HH.out HM.out gb gs HG.out hS (w.heap.size+1) (w.heap.size+1+1) w.heap.size _ ?_ (by omega) (by omega) (by omega) ?_ ?_ ?_).mono ?_
 ·repeat (first|exact Ext.refl _|(refine Ext.set_ ?_ (by simp) _)|(refine Ext.alloc_ ?_ _)|(refine Ext.drewN_ ?_ _))
 ·exact SMap.made_ (w:=(w.alloc _).drewN n) _ (by simp) (by repeat (first|exact Ext.refl _|(refine Ext.set_ ?_ (by simp) _)|(refine Ext.alloc_ ?_ _)))
 ·simp[go_sem]
 ·simp[go_sem]
 rintro e w1 ⟨rfl,hsm,hK⟩
 rw[h1]
 have hx:Ext w w1:=Ext.keep (by repeat (first|exact Ext.refl _|(refine Ext.set_ ?_ (by simp) _)|(refine Ext.alloc_ ?_ _)|(refine Ext.drewN_ ?_ _))) hK (fun i hi=>by omega)
 have f1:w1.cell? ⟨w.heap.size,0,none⟩=some (.pointer (some ⟨b,o,none⟩)):=hK.cell (by simp) (by simp[go_sem])
 have f3:w1.cell? ⟨w.heap.size+1+1,0,none⟩=some (.map (some (w.heap.size+1))):=hK.cell (by simp) (by simp[go_sem])
 have z1:w.heap.size+1+1<w1.heap.size:=by have:=hK.size;simp at this;omega
 have HX1:=Lib.hid hx
 have HSM:=Lib.hid (hsm h1)
 clear hsm hK hx hS h1
 go_wp2
 refine named_world (fun W9 hW9=>?_)
 have g5:W9.cell? ⟨w1.heap.size+1,0,none⟩=some (.func (.func 139) #[] #[.pointer (some ⟨w1.heap.size,0,none⟩)]):=by rw[hW9];simp[go_sem]
 have g4:W9.cell? ⟨w1.heap.size,0,none⟩=some (.func (.func 137) #[] #[.pointer (some ⟨w.heap.size+1+1,0,none⟩)]):=by rw[hW9];simp[go_sem]
 have g6:W9.cell? ⟨w1.heap.size+1+1,0,none⟩=some (.bool true):=by rw[hW9];simp[go_sem]
 have u6:W9.frozen? ⟨w1.heap.size+1+1,0,none⟩=false:=by rw[hW9];simp[go_sem]
 have hx9:Ext w1 W9:=by rw[hW9];repeat (first|exact Ext.refl _|(refine Ext.alloc_ ?_ _))
 have g1:=hx9.cell_ f1
 have g3:=hx9.cell_ f3
 have hsm9:=HSM.out.ext hx9
 have hxx:Ext w W9:=Ext.trans_ HX1.out hx9
 have hM9:=HM.out.ext hxx
 have gr:=hM9.roots
 have gk:=hM9.weak
 have z9:w1.heap.size+1+1<W9.heap.size:=cell_lt g6
 have G3:=Lib.hid g3
 have G4:=Lib.hid g4
 have G6:=Lib.hid g6
 have U6:=Lib.hid u6
 have SM9:=Lib.hid hsm9
 have HX9:=Lib.hid hxx
 clear hW9 hx9 f1 f3 g3 g4 g6 u6 hsm9 hxx hM9 HSM
 refine wp_region_held_drew (S:=fun W=>W.cell? ⟨w1.heap.size+1,0,none⟩=some (.func (.func 139) #[] #[.pointer (some ⟨w1.heap.size,0,none⟩)])∧W.cell? ⟨w.heap.size,0,none⟩=some (.pointer (some ⟨b,o,none⟩))∧W.cell? ⟨b,o+7,none⟩=some (.slice S.R.1 M.roots.length S.R.2)∧W.cell? ⟨b,o+8,none⟩=some (.slice S.K.1 M.weak.length S.K.2)) (by kernel_rfl) ?_ (fun hHeld=>?_)
 ·exact⟨g5,g1,gr,gk⟩
 refine tk 0 ⟨some 27,_,_,_,_,_⟩ ?_ rfl ?_ ?_
 rotate_left
 ·(intro w hSw;(try dsimp only at hSw);go_simp;try with_reducible rfl)
 try simp only[tkS]
 refine tk 1 ⟨some 28,_,_,_,_,_⟩ ?_ rfl ?_ ?_
 rotate_left
 ·(intro w hSw;(try dsimp only at hSw);go_simp;try with_reducible rfl)
 try simp only[tkS]
 refine tk 2 ⟨some 29,_,_,_,_,_⟩ ?_ rfl ?_ ?_
 rotate_left
 ·(intro w hSw;(try dsimp only at hSw);go_simp;try with_reducible rfl)
 try simp only[tkS]
 refine tk 3 ⟨some 30,_,_,_,_,_⟩ ?_ rfl ?_ ?_
 rotate_left
 ·(intro w hSw;(try dsimp only at hSw);go_simp;try with_reducible rfl)
 try simp only[tkS]
 refine tk 4 ⟨some 31,_,_,_,_,_⟩ ?_ rfl ?_ ?_
 rotate_left
 ·(intro w hSw;(try dsimp only at hSw);go_simp;try with_reducible rfl)
 try simp only[tkS]
 refine wpAnyH_ready (rs:=[5]) (by kernel_rfl) (by simp) ?_
 refine AllReadyH.cons (o:=⟨some 32,_,_,_,_,_⟩) rfl (fun K hK=>?_) AllReadyH.nil
 go_simp
 refine (c3_any S.R.1 S.R.2 M.roots ?_ ?_ (w.heap.size+1) (w.heap.size+1+1) w1.heap.size (startsM M) _ ?_ ?_ ?_ ?_).mono ?_
 ·exact HM.out.ok.lenR
 ·exact HM.out.ok.roots
 ·exact (HM.out.ext (Ext.trans_ HX9.out (by repeat (first|exact Ext.refl _|(refine Ext.drew_ ?_))))).rR
 ·exact SM9.out.ext (by repeat (first|exact Ext.refl _|(refine Ext.drew_ ?_)))
 ·exact Ext.cell_ (by repeat (first|exact Ext.refl _|(refine Ext.drew_ ?_))) G3.out
 ·exact Ext.cell_ (by repeat (first|exact Ext.refl _|(refine Ext.drew_ ?_))) G4.out
 rintro e w2 ⟨he,hq⟩
 rw[HR.out] at he
 subst he
 have HE2:Hid (Ext W9 w2):=Ext.trans_ (by repeat (first|exact Ext.refl _|(refine Ext.drew_ ?_))) hq
 have d2:=hq.cell_ hHeld.1
 have d2a:=hq.cell_ hHeld.2.1
 have d2b:=hq.cell_ hHeld.2.2.1
 have d2c:=hq.cell_ hHeld.2.2.2
 clear hq
 refine hK.out _ _ ?_ (fun hHeld=>?_)
 ·(try dsimp only);exact⟨d2,d2a,d2b,d2c⟩
 clear hK K
 try simp only[tkS]
 refine tk 6 ⟨some 33,_,_,_,_,_⟩ ?_ rfl ?_ ?_
 rotate_left
 ·(intro w hSw;(try dsimp only at hSw);go_simp;try with_reducible rfl)
 try simp only[tkS]
 refine tk 7 ⟨some 34,_,_,_,_,_⟩ ?_ rfl ?_ ?_
 rotate_left
 ·(intro w hSw;(try dsimp only at hSw);go_simp;try with_reducible rfl)
 try simp only[tkS]
 refine tk 8 ⟨some 35,_,_,_,_,_⟩ ?_ rfl ?_ ?_
 rotate_left
 ·(intro w hSw;(try dsimp only at hSw);go_simp;try with_reducible rfl)
 try simp only[tkS]
 refine tk 9 ⟨some 36,_,_,_,_,_⟩ ?_ rfl ?_ ?_
 rotate_left
 ·(intro w hSw;(try dsimp only at hSw);go_simp;try with_reducible rfl)
 try simp only[tkS]
 refine tk 10 ⟨some 37,_,_,_,_,_⟩ ?_ rfl ?_ ?_
 rotate_left
 ·(intro w hSw;(try dsimp only at hSw);go_simp;try with_reducible rfl)
 try simp only[tkS]
 refine tk 11 ⟨some 38,_,_,_,_,_⟩ ?_ rfl ?_ ?_
 rotate_left
 ·(intro w hSw;(try dsimp only at hSw);go_simp;try with_reducible rfl)
 try simp only[tkS]
 refine tk 12 ⟨some 39,_,_,_,_,_⟩ ?_ rfl ?_ ?_
 rotate_left
 ·(intro w hSw;(try dsimp only at hSw);go_simp;try with_reducible rfl)
 try simp only[tkS]
 refine wpAnyH_ready (rs:=[13]) (by kernel_rfl) (by simp) ?_
 refine AllReadyH.cons (o:=⟨some 40,_,_,_,_,_⟩) rfl (fun K hK=>?_) AllReadyH.nil
 go_simp
 refine (c3_any S.K.1 S.K.2 M.weak ?_ ?_ (w.heap.size+1) (w.heap.size+1+1) w1.heap.size (startsM M) _ ?_ ?_ ?_ ?_).mono ?_
 ·exact HM.out.ok.lenK
 ·exact HM.out.ok.weak
 ·exact (HM.out.ext (Ext.trans_ HX9.out (by exact HE2.out))).rK
 ·exact SM9.out.ext (by exact HE2.out)
 ·exact Ext.cell_ (by exact HE2.out) G3.out
 ·exact Ext.cell_ (by exact HE2.out) G4.out
 rintro e w3 ⟨he,hq⟩
 rw[HW.out] at he
 subst he
 have HE3:Hid (Ext W9 w3):=Ext.trans_ (by exact HE2.out) hq
 have d3:=hq.cell_ hHeld.1
 have d3a:=hq.cell_ hHeld.2.1
 have d3b:=hq.cell_ hHeld.2.2.1
 have d3c:=hq.cell_ hHeld.2.2.2
 clear hq
 refine hK.out _ _ ?_ (fun hHeld=>?_)
 ·(try dsimp only);exact⟨d3,d3a,d3b,d3c⟩
 clear hK K
 try simp only[tkS]
 refine tk 14 ⟨some 41,_,_,_,_,_⟩ ?_ rfl ?_ ?_
 rotate_left
 ·(intro w hSw;(try dsimp only at hSw);go_simp;try with_reducible rfl)
 try simp only[tkS]
 refine tk 15 ⟨some 42,_,_,_,_,_⟩ ?_ rfl ?_ ?_
 rotate_left
 ·(intro w hSw;(try dsimp only at hSw);go_simp;try with_reducible rfl)
 try simp only[tkS]
 refine tk 16 ⟨some 43,_,_,_,_,_⟩ ?_ rfl ?_ ?_
 rotate_left
 ·(intro w hSw;(try dsimp only at hSw);go_simp;try with_reducible rfl)
 try simp only[tkS]
 refine tn 17 ⟨some 44,_,_,_,_,_⟩ rfl ?_
 try simp only[tkS]
 refine tn 18 ⟨some 45,_,_,_,_,_⟩ rfl ?_
 try simp only[tkS]
 refine tn 19 ⟨some 46,_,_,_,_,_⟩ rfl ?_
 try simp only[tkS]
 refine tn 20 ⟨some 47,_,_,_,_,_⟩ rfl ?_
 try simp only[tkS]
 refine tk 21 ⟨some 48,_,_,_,_,_⟩ ?_ rfl ?_ ?_
 rotate_left
 ·(intro w hSw;(try dsimp only at hSw);go_simp;try with_reducible rfl)
 try simp only[tkS]
 refine wpAnyH_done (by kernel_rfl) ?_ _
 have hx:Ext w w3:=Ext.trans_ HX9.out HE3.out
 have hS1:GShape w3 gs:=hx.cell_ HS.out
 go_wp2
 go_ret
 exact⟨rfl,hx⟩
theorem check_b3 (b o:Nat) (M:Mem) (S:Sls) (gb gs gp:Addr) (w:World) (hM:RMem w b o M S) (hG:GBound w gb) (hS:GShape w gs) (hP:GPlace w gp) (hs:shapeB M=true) (h1:objsB M (okHd M)=true) (h2:fieldsB (startsM M) M.roots=true) (h3:fieldsB (startsM M) M.weak=true) (h4:objsB M (okFld M (startsM M))=false) :
  Calls Tryz.prog 90 #[.pointer (some ⟨b,o,none⟩)] w fun e w'=>e=.returned (errV gs)∧Ext w w':=by
 have hh:=shp_of hs
 have hmm:=@run_makeMap Tryz.prog
 have HM:=Lib.hid hM
 have HG:=Lib.hid hG
 have HH:=Lib.hid hh
 have HS:=Lib.hid hS
 have HP:=Lib.hid hP
 have H1:=Lib.hid h1
 have HR:=Lib.hid h2
 have HW:=Lib.hid h3
 have HO:=Lib.hid h4
 clear h2 h3 h4
 have hltb:=hM.lt
 have hltg:=cell_lt hS
 have hltp:=cell_lt hP
 simp only at hltg hltp
 clear hM hG hh hP
 go_enter Tryz.func90,Tryz.ntmps90
 go_wp2_with (first
  | (go_at_call 134;refine (shape_any _ b o M S ?_).mono ?_;(exact HM.out.ext ((Ext.refl w).alloc_ _));rintro e w' ⟨rfl,n,rfl⟩;rw[hs]))
 refine (objects_c1 w b o M S HH.out HM.out gb gs HG.out hS (w.heap.size+1) (w.heap.size+1+1) w.heap.size _ ?_ (by omega) (by omega) (by omega) ?_ ?_ ?_).mono ?_
 ·repeat (first|exact Ext.refl _|(refine Ext.set_ ?_ (by simp) _)|(refine Ext.alloc_ ?_ _)|(refine Ext.drewN_ ?_ _))
 ·exact SMap.made_ (w:=(w.alloc _).drewN n) _ (by simp) (by repeat (first|exact Ext.refl _|(refine Ext.set_ ?_ (by simp) _)|(refine Ext.alloc_ ?_ _)))
 ·simp[go_sem]
 ·simp[go_sem]
 rintro e w1 ⟨rfl,hsm,hK⟩
 rw[h1]
 have hx:Ext w w1:=Ext.keep (by repeat (first|exact Ext.refl _|(refine Ext.set_ ?_ (by simp) _)|(refine Ext.alloc_ ?_ _)|(refine Ext.drewN_ ?_ _))) hK (fun i hi=>by omega)
 have f1:w1.cell? ⟨w.heap.size,0,none⟩=some (.pointer (some ⟨b,o,none⟩)):=hK.cell (by simp) (by simp[go_sem])
 have f3:w1.cell? ⟨w.heap.size+1+1,0,none⟩=some (.map (some (w.heap.size+1))):=hK.cell (by simp) (by simp[go_sem])
 have z1:w.heap.size+1+1<w1.heap.size:=by have:=hK.size;simp at this;omega
 have HX1:=Lib.hid hx
 have HSM:=Lib.hid (hsm h1)
 clear hsm hK hx hS h1
 go_wp2
 refine named_world (fun W9 hW9=>?_)
 have g5:W9.cell? ⟨w1.heap.size+1,0,none⟩=some (.func (.func 139) #[] #[.pointer (some ⟨w1.heap.size,0,none⟩)]):=by rw[hW9];simp[go_sem]
 have g4:W9.cell? ⟨w1.heap.size,0,none⟩=some (.func (.func 137) #[] #[.pointer (some ⟨w.heap.size+1+1,0,none⟩)]):=by rw[hW9];simp[go_sem]
 have g6:W9.cell? ⟨w1.heap.size+1+1,0,none⟩=some (.bool true):=by rw[hW9];simp[go_sem]
 have u6:W9.frozen? ⟨w1.heap.size+1+1,0,none⟩=false:=by rw[hW9];simp[go_sem]
 have hx9:Ext w1 W9:=by rw[hW9];repeat (first|exact Ext.refl _|(refine Ext.alloc_ ?_ _))
 have g1:=hx9.cell_ f1
 have g3:=hx9.cell_ f3
 have hsm9:=HSM.out.ext hx9
 have hxx:Ext w W9:=Ext.trans_ HX1.out hx9
 have hM9:=HM.out.ext hxx
 have gr:=hM9.roots
 have gk:=hM9.weak
 have z9:w1.heap.size+1+1<W9.heap.size:=cell_lt g6
 have G3:=Lib.hid g3
 have G4:=Lib.hid g4
 have G6:=Lib.hid g6
 have U6:=Lib.hid u6
 have SM9:=Lib.hid hsm9
 have HX9:=Lib.hid hxx
 clear hW9 hx9 f1 f3 g3 g4 g6 u6 hsm9 hxx hM9 HSM
 refine wp_region_held_drew (S:=fun W=>W.cell? ⟨w1.heap.size+1,0,none⟩=some (.func (.func 139) #[] #[.pointer (some ⟨w1.heap.size,0,none⟩)])∧W.cell? ⟨w.heap.size,0,none⟩=some (.pointer (some ⟨b,o,none⟩))∧W.cell? ⟨b,o+7,none⟩=some (.slice S.R.1 M.roots.length S.R.2)∧W.cell? ⟨b,o+8,none⟩=some (.slice S.K.1 M.weak.length S.K.2)) (by kernel_rfl) ?_ (fun hHeld=>?_)
 ·exact⟨g5,g1,gr,gk⟩
 refine tk 0 ⟨some 27,_,_,_,_,_⟩ ?_ rfl ?_ ?_
 rotate_left
 ·(intro w hSw;(try dsimp only at hSw);go_simp;try with_reducible rfl)
 try simp only[tkS]
 refine tk 1 ⟨some 28,_,_,_,_,_⟩ ?_ rfl ?_ ?_
 rotate_left
 ·(intro w hSw;(try dsimp only at hSw);go_simp;try with_reducible rfl)
 try simp only[tkS]
 refine tk 2 ⟨some 29,_,_,_,_,_⟩ ?_ rfl ?_ ?_
 rotate_left
 ·(intro w hSw;(try dsimp only at hSw);go_simp;try with_reducible rfl)
 try simp only[tkS]
 refine tk 3 ⟨some 30,_,_,_,_,_⟩ ?_ rfl ?_ ?_
 rotate_left
 ·(intro w hSw;(try dsimp only at hSw);go_simp;try with_reducible rfl)
 try simp only[tkS]
 refine tk 4 ⟨some 31,_,_,_,_,_⟩ ?_ rfl ?_ ?_
 rotate_left
 ·(intro w hSw;(try dsimp only at hSw);go_simp;try with_reducible rfl)
 try simp only[tkS]
 refine wpAnyH_ready (rs:=[5]) (by kernel_rfl) (by simp) ?_
 refine AllReadyH.cons (o:=⟨some 32,_,_,_,_,_⟩) rfl (fun K hK=>?_) AllReadyH.nil
 go_simp
 refine (c3_any S.R.1 S.R.2 M.roots ?_ ?_ (w.heap.size+1) (w.heap.size+1+1) w1.heap.size (startsM M) _ ?_ ?_ ?_ ?_).mono ?_
 ·exact HM.out.ok.lenR
 ·exact HM.out.ok.roots
 ·exact (HM.out.ext (Ext.trans_ HX9.out (by repeat (first|exact Ext.refl _|(refine Ext.drew_ ?_))))).rR
 ·exact SM9.out.ext (by repeat (first|exact Ext.refl _|(refine Ext.drew_ ?_)))
 ·exact Ext.cell_ (by repeat (first|exact Ext.refl _|(refine Ext.drew_ ?_))) G3.out
 ·exact Ext.cell_ (by repeat (first|exact Ext.refl _|(refine Ext.drew_ ?_))) G4.out
 rintro e w2 ⟨he,hq⟩
 rw[HR.out] at he
 subst he
 have HE2:Hid (Ext W9 w2):=Ext.trans_ (by repeat (first|exact Ext.refl _|(refine Ext.drew_ ?_))) hq
 have d2:=hq.cell_ hHeld.1
 have d2a:=hq.cell_ hHeld.2.1
 have d2b:=hq.cell_ hHeld.2.2.1
 have d2c:=hq.cell_ hHeld.2.2.2
 clear hq
 refine hK.out _ _ ?_ (fun hHeld=>?_)
 ·(try dsimp only);exact⟨d2,d2a,d2b,d2c⟩
 clear hK K
 try simp only[tkS]
 refine tk 6 ⟨some 33,_,_,_,_,_⟩ ?_ rfl ?_ ?_
 rotate_left
 ·(intro w hSw;(try dsimp only at hSw);go_simp;try with_reducible rfl)
 try simp only[tkS]
 refine tk 7 ⟨some 34,_,_,_,_,_⟩ ?_ rfl ?_ ?_
 rotate_left
 ·(intro w hSw;(try dsimp only at hSw);go_simp;try with_reducible rfl)
 try simp only[tkS]
 refine tk 8 ⟨some 35,_,_,_,_,_⟩ ?_ rfl ?_ ?_
 rotate_left
 ·(intro w hSw;(try dsimp only at hSw);go_simp;try with_reducible rfl)
 try simp only[tkS]
 refine tk 9 ⟨some 36,_,_,_,_,_⟩ ?_ rfl ?_ ?_
 rotate_left
 ·(intro w hSw;(try dsimp only at hSw);go_simp;try with_reducible rfl)
 try simp only[tkS]
 refine tk 10 ⟨some 37,_,_,_,_,_⟩ ?_ rfl ?_ ?_
 rotate_left
 ·(intro w hSw;(try dsimp only at hSw);go_simp;try with_reducible rfl)
 try simp only[tkS]
 refine tk 11 ⟨some 38,_,_,_,_,_⟩ ?_ rfl ?_ ?_
 rotate_left
 ·(intro w hSw;(try dsimp only at hSw);go_simp;try with_reducible rfl)
 try simp only[tkS]
 refine tk 12 ⟨some 39,_,_,_,_,_⟩ ?_ rfl ?_ ?_
 rotate_left
 ·(intro w hSw;(try dsimp only at hSw);go_simp;try with_reducible rfl)
 try simp only[tkS]
 refine wpAnyH_ready (rs:=[13]) (by kernel_rfl) (by simp) ?_
 refine AllReadyH.cons (o:=⟨some 40,_,_,_,_,_⟩) rfl (fun K hK=>?_) AllReadyH.nil
 go_simp
 refine (c3_any S.K.1 S.K.2 M.weak ?_ ?_ (w.heap.size+1) (w.heap.size+1+1) w1.heap.size (startsM M) _ ?_ ?_ ?_ ?_).mono ?_
 ·exact HM.out.ok.lenK
 ·exact HM.out.ok.weak
 ·exact (HM.out.ext (Ext.trans_ HX9.out (by exact HE2.out))).rK
 ·exact SM9.out.ext (by exact HE2.out)
 ·exact Ext.cell_ (by exact HE2.out) G3.out
 ·exact Ext.cell_ (by exact HE2.out) G4.out
 rintro e w3 ⟨he,hq⟩
 rw[HW.out] at he
 subst he
 have HE3:Hid (Ext W9 w3):=Ext.trans_ (by exact HE2.out) hq
 have d3:=hq.cell_ hHeld.1
 have d3a:=hq.cell_ hHeld.2.1
 have d3b:=hq.cell_ hHeld.2.2.1
 have d3c:=hq.cell_ hHeld.2.2.2
 clear hq
 refine hK.out _ _ ?_ (fun hHeld=>?_)
 ·(try dsimp only);exact⟨d3,d3a,d3b,d3c⟩
 clear hK K
 try simp only[tkS]
 refine tk 14 ⟨some 41,_,_,_,_,_⟩ ?_ rfl ?_ ?_
 rotate_left
 ·(intro w hSw;(try dsimp only at hSw);go_simp;try with_reducible rfl)
 try simp only[tkS]
 refine tk 15 ⟨some 42,_,_,_,_,_⟩ ?_ rfl ?_ ?_
 rotate_left
 ·(intro w hSw;(try dsimp only at hSw);go_simp;try with_reducible rfl)
 try simp only[tkS]
 refine tk 16 ⟨some 43,_,_,_,_,_⟩ ?_ rfl ?_ ?_
 rotate_left
 ·(intro w hSw;(try dsimp only at hSw);go_simp;try with_reducible rfl)
 try simp only[tkS]
 refine tk 17 ⟨some 44,_,_,_,_,_⟩ ?_ rfl ?_ ?_
 rotate_left
 ·(intro w hSw;(try dsimp only at hSw);go_simp;try with_reducible rfl)
 try simp only[tkS]
 refine tk 18 ⟨some 45,_,_,_,_,_⟩ ?_ rfl ?_ ?_
 rotate_left
 ·(intro w hSw;(try dsimp only at hSw);go_simp;try with_reducible rfl)
 try simp only[tkS]
 refine wpAnyH_ready (rs:=[19]) (by kernel_rfl) (by simp) ?_
 refine AllReadyH.cons (o:=⟨some 46,_,_,_,_,_⟩) rfl (fun K hK=>?_) AllReadyH.nil
 go_simp
 refine (objects_c4 w b o M S HH.out HM.out gb gs HG.out HS.out w.heap.size (w.heap.size+1+1) w1.heap.size (w1.heap.size+1) (w1.heap.size+1+1) (w.heap.size+1) (startsM M) _ ?_ (by omega) (by omega) (by omega) (by omega) (by omega) (by omega) ?_ ?_ ?_ ?_ ?_ ?_ ?_).mono ?_
 ·exact Ext.trans_ HX9.out HE3.out
 ·exact SM9.out.ext HE3.out
 ·exact hHeld.2.1
 ·exact HE3.out.cell_ G3.out
 ·exact HE3.out.cell_ G4.out
 ·exact hHeld.1
 ·exact HE3.out.cell_ G6.out
 ·rw[HE3.out.three.2.1 _ _ z9];exact U6.out
 rintro e w4 ⟨he,hc6,hK⟩
 rw[HO.out] at he
 subst he
 have HE4:Hid (Ext w w4):=Ext.keep (Ext.trans_ HX9.out HE3.out) hK (fun i hi=>by omega)
 have d4:=hK.cell (by simp) hHeld.1
 have d4a:=hK.cell (by simp;omega) hHeld.2.1
 have d4b:=hK.cell (by simp;omega) hHeld.2.2.1
 have d4c:=hK.cell (by simp;omega) hHeld.2.2.2
 have HC6:=Lib.hid hc6
 have HK4:=Lib.hid hK
 clear hc6 hK
 refine hK.out _ _ ?_ (fun hHeld=>?_)
 ·(try dsimp only);exact⟨d4,d4a,d4b,d4c⟩
 clear hK K
 try simp only[tkS]
 refine tk 20 ⟨some 47,_,_,_,_,_⟩ ?_ rfl ?_ ?_
 rotate_left
 ·(intro w hSw;(try dsimp only at hSw);go_simp;try with_reducible rfl)
 try simp only[tkS]
 refine tk 21 ⟨some 48,_,_,_,_,_⟩ ?_ rfl ?_ ?_
 rotate_left
 ·(intro w hSw;(try dsimp only at hSw);go_simp;try with_reducible rfl)
 try simp only[tkS]
 refine wpAnyH_done (by kernel_rfl) ?_ _
 have hx:Ext w w4:=HE4.out
 have hS1:GShape w4 gs:=hx.cell_ HS.out
 go_wp2
 go_ret
 exact⟨rfl,hx⟩
theorem undAts:Tryz.prog.underlying 203=some (.map 78 4):=by kernel_rfl
theorem undWord:Tryz.prog.underlying 78=some (.int .u64):=by kernel_rfl
theorem smapU_look {w:World} {bm:Nat} {st:List Int} (h:SMap w bm .u64 st) (a:Int) :
  (Instr.lookup 203 (.map (some bm)) (.int .u64 a) false).run Tryz.prog w=.ok (.bool (inSt st a)) w:=by
 obtain⟨es,hm,hg⟩:=h
 rw[run_lookup_mapi undAts undWord (zeroBool w) hm a false,hg a]
 unfold inSt
 cases st.contains a<;>rfl
theorem smapU_put {w:World} {bm:Nat} {st:List Int} (h:SMap w bm .u64 st) (a:Int) :
  ∃ w',(Instr.mapUpdate 203 (.map (some bm)) (.int .u64 a) (.bool true)).run Tryz.prog w=.ok () w'∧SMap w' bm .u64 (st++[a])∧But bm w w':=by
 obtain⟨es,hm,hg⟩:=h
 obtain⟨w',h1,h2,h3⟩:=run_update_mapi (P:=Tryz.prog) undAts undWord hm a (.bool true)
 exact⟨w',h1,SMap.put a hg h2,h3⟩
def idsRes (M:Mem) (gs gp:Addr):Value:=if idsB (startsM M) [] M.ids=true then (if cardsM M=true then .nilIface else errV gp) else errV gs
theorem idOK_eq (st:List Int) (pre:List (Int × Int)) (x1 x2:Int):idOK st pre (x1,x2)=(!(((((kindW x1 != 0)||(x1==0))||!fldB st x1)||decide (x2<1))||inSt (pre.map (·.1)) x1)&&!inSt (pre.map (·.2)) x2):=rfl
theorem check_e (b o:Nat) (M:Mem) (S:Sls) (gb gs gp:Addr) (w:World) (hM:RMem w b o M S) (hG:GBound w gb) (hS:GShape w gs) (hP:GPlace w gp) (hs:shapeB M=true) (h1:objsB M (okHd M)=true) (h2:fieldsB (startsM M) M.roots=true) (h3:fieldsB (startsM M) M.weak=true) (h4:objsB M (okFld M (startsM M))=true) :
  Calls Tryz.prog 90 #[.pointer (some ⟨b,o,none⟩)] w fun e w'=>e=.returned (idsRes M gs gp)∧Ext w w':=by
 have hh:=shp_of hs
 have hmm:=@run_makeMap Tryz.prog
 have HM:=Lib.hid hM
 have HG:=Lib.hid hG
 have HH:=Lib.hid hh
 have HS:=Lib.hid hS
 have HP:=Lib.hid hP
 have H1:=Lib.hid h1
 have HR:=Lib.hid h2
 have HW:=Lib.hid h3
 have HO:=Lib.hid h4
 clear h2 h3 h4
 have hltb:=hM.lt
 have hltg:=cell_lt hS
 have hltp:=cell_lt hP
 simp only at hltg hltp
 clear hM hG hh hP
 go_enter Tryz.func90,Tryz.ntmps90
 go_wp2_with (first
  | (go_at_call 134;refine (shape_any _ b o M S ?_).mono ?_;(exact HM.out.ext ((Ext.refl w).alloc_ _));rintro e w' ⟨rfl,n,rfl⟩;rw[hs]))
 refine (objects_c1 w b o M S HH.out HM.out gb gs HG.out hS (w.heap.size+1) (w.heap.size+1+1) w.heap.size _ ?_ (by omega) (by omega) (by omega) ?_ ?_ ?_).mono ?_
 ·repeat (first|exact Ext.refl _|(refine Ext.set_ ?_ (by simp) _)|(refine Ext.alloc_ ?_ _)|(refine Ext.drewN_ ?_ _))
 ·exact SMap.made_ (w:=(w.alloc _).drewN n) _ (by simp) (by repeat (first|exact Ext.refl _|(refine Ext.set_ ?_ (by simp) _)|(refine Ext.alloc_ ?_ _)))
 ·simp[go_sem]
 ·simp[go_sem]
 rintro e w1 ⟨rfl,hsm,hK⟩
 rw[h1]
 have hx:Ext w w1:=Ext.keep (by repeat (first|exact Ext.refl _|(refine Ext.set_ ?_ (by simp) _)|(refine Ext.alloc_ ?_ _)|(refine Ext.drewN_ ?_ _))) hK (fun i hi=>by omega)
 have f1:w1.cell? ⟨w.heap.size,0,none⟩=some (.pointer (some ⟨b,o,none⟩)):=hK.cell (by simp) (by simp[go_sem])
 have f3:w1.cell? ⟨w.heap.size+1+1,0,none⟩=some (.map (some (w.heap.size+1))):=hK.cell (by simp) (by simp[go_sem])
 have z1:w.heap.size+1+1<w1.heap.size:=by have:=hK.size;simp at this;omega
 have HX1:=Lib.hid hx
 have HSM:=Lib.hid (hsm h1)
 clear hsm hK hx hS h1
 go_wp2
 refine named_world (fun W9 hW9=>?_)
 have g5:W9.cell? ⟨w1.heap.size+1,0,none⟩=some (.func (.func 139) #[] #[.pointer (some ⟨w1.heap.size,0,none⟩)]):=by rw[hW9];simp[go_sem]
 have g4:W9.cell? ⟨w1.heap.size,0,none⟩=some (.func (.func 137) #[] #[.pointer (some ⟨w.heap.size+1+1,0,none⟩)]):=by rw[hW9];simp[go_sem]
 have g6:W9.cell? ⟨w1.heap.size+1+1,0,none⟩=some (.bool true):=by rw[hW9];simp[go_sem]
 have u6:W9.frozen? ⟨w1.heap.size+1+1,0,none⟩=false:=by rw[hW9];simp[go_sem]
 have hx9:Ext w1 W9:=by rw[hW9];repeat (first|exact Ext.refl _|(refine Ext.alloc_ ?_ _))
 have g1:=hx9.cell_ f1
 have g3:=hx9.cell_ f3
 have hsm9:=HSM.out.ext hx9
 have hxx:Ext w W9:=Ext.trans_ HX1.out hx9
 have hM9:=HM.out.ext hxx
 have gr:=hM9.roots
 have gk:=hM9.weak
 have z9:w1.heap.size+1+1<W9.heap.size:=cell_lt g6
 have G3:=Lib.hid g3
 have G4:=Lib.hid g4
 have G6:=Lib.hid g6
 have U6:=Lib.hid u6
 have SM9:=Lib.hid hsm9
 have HX9:=Lib.hid hxx
 clear hW9 hx9 f1 f3 g3 g4 g6 u6 hsm9 hxx hM9 HSM
 refine wp_region_held_drew (S:=fun W=>W.cell? ⟨w1.heap.size+1,0,none⟩=some (.func (.func 139) #[] #[.pointer (some ⟨w1.heap.size,0,none⟩)])∧W.cell? ⟨w.heap.size,0,none⟩=some (.pointer (some ⟨b,o,none⟩))∧W.cell? ⟨b,o+7,none⟩=some (.slice S.R.1 M.roots.length S.R.2)∧W.cell? ⟨b,o+8,none⟩=some (.slice S.K.1 M.weak.length S.K.2)) (by kernel_rfl) ?_ (fun hHeld=>?_)
 ·exact⟨g5,g1,gr,gk⟩
 refine tk 0 ⟨some 27,_,_,_,_,_⟩ ?_ rfl ?_ ?_
 rotate_left
 ·(intro w hSw;(try dsimp only at hSw);go_simp;try with_reducible rfl)
 try simp only[tkS]
 refine tk 1 ⟨some 28,_,_,_,_,_⟩ ?_ rfl ?_ ?_
 rotate_left
 ·(intro w hSw;(try dsimp only at hSw);go_simp;try with_reducible rfl)
 try simp only[tkS]
 refine tk 2 ⟨some 29,_,_,_,_,_⟩ ?_ rfl ?_ ?_
 rotate_left
 ·(intro w hSw;(try dsimp only at hSw);go_simp;try with_reducible rfl)
 try simp only[tkS]
 refine tk 3 ⟨some 30,_,_,_,_,_⟩ ?_ rfl ?_ ?_
 rotate_left
 ·(intro w hSw;(try dsimp only at hSw);go_simp;try with_reducible rfl)
 try simp only[tkS]
 refine tk 4 ⟨some 31,_,_,_,_,_⟩ ?_ rfl ?_ ?_
 rotate_left
 ·(intro w hSw;(try dsimp only at hSw);go_simp;try with_reducible rfl)
 try simp only[tkS]
 refine wpAnyH_ready (rs:=[5]) (by kernel_rfl) (by simp) ?_
 refine AllReadyH.cons (o:=⟨some 32,_,_,_,_,_⟩) rfl (fun K hK=>?_) AllReadyH.nil
 go_simp
 refine (c3_any S.R.1 S.R.2 M.roots ?_ ?_ (w.heap.size+1) (w.heap.size+1+1) w1.heap.size (startsM M) _ ?_ ?_ ?_ ?_).mono ?_
 ·exact HM.out.ok.lenR
 ·exact HM.out.ok.roots
 ·exact (HM.out.ext (Ext.trans_ HX9.out (by repeat (first|exact Ext.refl _|(refine Ext.drew_ ?_))))).rR
 ·exact SM9.out.ext (by repeat (first|exact Ext.refl _|(refine Ext.drew_ ?_)))
 ·exact Ext.cell_ (by repeat (first|exact Ext.refl _|(refine Ext.drew_ ?_))) G3.out
 ·exact Ext.cell_ (by repeat (first|exact Ext.refl _|(refine Ext.drew_ ?_))) G4.out
 rintro e w2 ⟨he,hq⟩
 rw[HR.out] at he
 subst he
 have HE2:Hid (Ext W9 w2):=Ext.trans_ (by repeat (first|exact Ext.refl _|(refine Ext.drew_ ?_))) hq
 have d2:=hq.cell_ hHeld.1
 have d2a:=hq.cell_ hHeld.2.1
 have d2b:=hq.cell_ hHeld.2.2.1
 have d2c:=hq.cell_ hHeld.2.2.2
 clear hq
 refine hK.out _ _ ?_ (fun hHeld=>?_)
 ·(try dsimp only);exact⟨d2,d2a,d2b,d2c⟩
 clear hK K
 try simp only[tkS]
 refine tk 6 ⟨some 33,_,_,_,_,_⟩ ?_ rfl ?_ ?_
 rotate_left
 ·(intro w hSw;(try dsimp only at hSw);go_simp;try with_reducible rfl)
 try simp only[tkS]
 refine tk 7 ⟨some 34,_,_,_,_,_⟩ ?_ rfl ?_ ?_
 rotate_left
 ·(intro w hSw;(try dsimp only at hSw);go_simp;try with_reducible rfl)
 try simp only[tkS]
 refine tk 8 ⟨some 35,_,_,_,_,_⟩ ?_ rfl ?_ ?_
 rotate_left
 ·(intro w hSw;(try dsimp only at hSw);go_simp;try with_reducible rfl)
 try simp only[tkS]
 refine tk 9 ⟨some 36,_,_,_,_,_⟩ ?_ rfl ?_ ?_
 rotate_left
 ·(intro w hSw;(try dsimp only at hSw);go_simp;try with_reducible rfl)
 try simp only[tkS]
 refine tk 10 ⟨some 37,_,_,_,_,_⟩ ?_ rfl ?_ ?_
 rotate_left
 ·(intro w hSw;(try dsimp only at hSw);go_simp;try with_reducible rfl)
 try simp only[tkS]
 refine tk 11 ⟨some 38,_,_,_,_,_⟩ ?_ rfl ?_ ?_
 rotate_left
 ·(intro w hSw;(try dsimp only at hSw);go_simp;try with_reducible rfl)
 try simp only[tkS]
 refine tk 12 ⟨some 39,_,_,_,_,_⟩ ?_ rfl ?_ ?_
 rotate_left
 ·(intro w hSw;(try dsimp only at hSw);go_simp;try with_reducible rfl)
 try simp only[tkS]
 refine wpAnyH_ready (rs:=[13]) (by kernel_rfl) (by simp) ?_
 refine AllReadyH.cons (o:=⟨some 40,_,_,_,_,_⟩) rfl (fun K hK=>?_) AllReadyH.nil
 go_simp
 refine (c3_any S.K.1 S.K.2 M.weak ?_ ?_ (w.heap.size+1) (w.heap.size+1+1) w1.heap.size (startsM M) _ ?_ ?_ ?_ ?_).mono ?_
 ·exact HM.out.ok.lenK
 ·exact HM.out.ok.weak
 ·exact (HM.out.ext (Ext.trans_ HX9.out (by exact HE2.out))).rK
 ·exact SM9.out.ext (by exact HE2.out)
 ·exact Ext.cell_ (by exact HE2.out) G3.out
 ·exact Ext.cell_ (by exact HE2.out) G4.out
 rintro e w3 ⟨he,hq⟩
 rw[HW.out] at he
 subst he
 have HE3:Hid (Ext W9 w3):=Ext.trans_ (by exact HE2.out) hq
 have d3:=hq.cell_ hHeld.1
 have d3a:=hq.cell_ hHeld.2.1
 have d3b:=hq.cell_ hHeld.2.2.1
 have d3c:=hq.cell_ hHeld.2.2.2
 clear hq
 refine hK.out _ _ ?_ (fun hHeld=>?_)
 ·(try dsimp only);exact⟨d3,d3a,d3b,d3c⟩
 clear hK K
 try simp only[tkS]
 refine tk 14 ⟨some 41,_,_,_,_,_⟩ ?_ rfl ?_ ?_
 rotate_left
 ·(intro w hSw;(try dsimp only at hSw);go_simp;try with_reducible rfl)
 try simp only[tkS]
 refine tk 15 ⟨some 42,_,_,_,_,_⟩ ?_ rfl ?_ ?_
 rotate_left
 ·(intro w hSw;(try dsimp only at hSw);go_simp;try with_reducible rfl)
 try simp only[tkS]
 refine tk 16 ⟨some 43,_,_,_,_,_⟩ ?_ rfl ?_ ?_
 rotate_left
 ·(intro w hSw;(try dsimp only at hSw);go_simp;try with_reducible rfl)
 try simp only[tkS]
 refine tk 17 ⟨some 44,_,_,_,_,_⟩ ?_ rfl ?_ ?_
 rotate_left
 ·(intro w hSw;(try dsimp only at hSw);go_simp;try with_reducible rfl)
 try simp only[tkS]
 refine tk 18 ⟨some 45,_,_,_,_,_⟩ ?_ rfl ?_ ?_
 rotate_left
 ·(intro w hSw;(try dsimp only at hSw);go_simp;try with_reducible rfl)
 try simp only[tkS]
 refine wpAnyH_ready (rs:=[19]) (by kernel_rfl) (by simp) ?_
 refine AllReadyH.cons (o:=⟨some 46,_,_,_,_,_⟩) rfl (fun K hK=>?_) AllReadyH.nil
 go_simp
 refine (objects_c4 w b o M S HH.out HM.out gb gs HG.out HS.out w.heap.size (w.heap.size+1+1) w1.heap.size (w1.heap.size+1) (w1.heap.size+1+1) (w.heap.size+1) (startsM M) _ ?_ (by omega) (by omega) (by omega) (by omega) (by omega) (by omega) ?_ ?_ ?_ ?_ ?_ ?_ ?_).mono ?_
 ·exact Ext.trans_ HX9.out HE3.out
 ·exact SM9.out.ext HE3.out
 ·exact hHeld.2.1
 ·exact HE3.out.cell_ G3.out
 ·exact HE3.out.cell_ G4.out
 ·exact hHeld.1
 ·exact HE3.out.cell_ G6.out
 ·rw[HE3.out.three.2.1 _ _ z9];exact U6.out
 rintro e w4 ⟨he,hc6,hK⟩
 rw[HO.out] at he
 subst he
 have HE4:Hid (Ext w w4):=Ext.keep (Ext.trans_ HX9.out HE3.out) hK (fun i hi=>by omega)
 have d4:=hK.cell (by simp) hHeld.1
 have d4a:=hK.cell (by simp;omega) hHeld.2.1
 have d4b:=hK.cell (by simp;omega) hHeld.2.2.1
 have d4c:=hK.cell (by simp;omega) hHeld.2.2.2
 have HC6:=Lib.hid hc6
 have HK4:=Lib.hid hK
 clear hc6 hK
 refine hK.out _ _ ?_ (fun hHeld=>?_)
 ·(try dsimp only);exact⟨d4,d4a,d4b,d4c⟩
 clear hK K
 try simp only[tkS]
 refine tk 20 ⟨some 47,_,_,_,_,_⟩ ?_ rfl ?_ ?_
 rotate_left
 ·(intro w hSw;(try dsimp only at hSw);go_simp;try with_reducible rfl)
 try simp only[tkS]
 refine tk 21 ⟨some 48,_,_,_,_,_⟩ ?_ rfl ?_ ?_
 rotate_left
 ·(intro w hSw;(try dsimp only at hSw);go_simp;try with_reducible rfl)
 try simp only[tkS]
 refine wpAnyH_done (by kernel_rfl) ?_ _
 have hx:Ext w w4:=HE4.out
 have hM4:=HM.out.ext hx
 have ci:=hM4.ids
 have hc6:=HC6.out HO.out
 have z4:=cell_lt hc6
 simp only at z4
 have z5:w.heap.size<w4.heap.size:=by omega
 have z6:b<w4.heap.size:=by omega
 have hil:M.ids.length≤9223372036854775807:=HM.out.ok.lenI
 have HI4:=Lib.hid hM4.rI
 have hK4:Keep (·=w1.heap.size+1+1) W9 w4:=Keep.trans (Keep.of_ext HE3.out) HK4.out
 have G34:=Lib.hid (hK4.cell (by simp;omega) G3.out)
 have G44:=Lib.hid (hK4.cell (by simp;omega) G4.out)
 have SM4:=Lib.hid (SM9.out.keep hK4 (by simp;omega))
 have HX4:=Lib.hid hx
 have C64:=Lib.hid hc6
 have hcap:=HM.out.capI
 clear hHeld hM4 hx hK4 hc6 HC6 HK4
 go_wp2
 go_loopw [57] (fun i wr=>∃ k:Nat,k≤M.ids.length∧i=.int .i64 (k:Int)∧Hid (SMap wr w4.heap.size .u64 ((M.ids.take k).map (·.1)))∧Hid (SMap wr (w4.heap.size+1) .i64 ((M.ids.take k).map (·.2))) ∧
   Hid (idsB (startsM M) [] M.ids=idsB (startsM M) (M.ids.take k) (M.ids.drop k))∧Hid (Ext w4 wr))
  (fun i _=>M.ids.length-(intOf i).toNat)
 case atStart =>
  exact⟨0,Nat.zero_le _,rfl,SMap.made_ (w:=w4) _ rfl ((Ext.refl _).alloc_ _),SMap.made_ (w:=w4.alloc (.map #[] 0)) _ (by simp) (Ext.refl _),rfl,((Ext.refl w4).alloc_ _).alloc_ _⟩
 case round =>
  obtain⟨k,hk,rfl,hA,hB,hP,hq⟩:=hrel
  have z7:=hq.out.size
  have z8:w.heap.size<wr.heap.size:=by omega
  have z9':b<wr.heap.size:=by omega
  by_cases hlt:k<M.ids.length
  ·obtain⟨p1,p2⟩:=icells_at M.ids k hlt
   obtain⟨ib,io,hIa,hc1⟩:=HI4.out _ _ p1
   have hc2:=(hIa ▸ HI4.out).at_ p2
   replace hc1:=hq.out.cell_ hc1
   replace hc2:=hq.out.cell_ hc2
   rw[←Nat.add_assoc] at hc2
   have hltc:=cell_lt hc1
   simp only at hltc
   obtain⟨⟨hb0,hb1⟩,-⟩:=HM.out.ok.ids M.ids[k] (List.getElem_mem hlt)
   have HD:Hid (M.ids.drop k=(M.ids[k].1,M.ids[k].2)::M.ids.drop (k+1)):=List.drop_eq_getElem_cons hlt
   have HT:Hid (M.ids.take (k+1)=M.ids.take k++[(M.ids[k].1,M.ids[k].2)]):=by
    unfold Hid;rw[List.take_succ_eq_append_getElem hlt]
   generalize M.ids[k].1=x1 at *
   generalize M.ids[k].2=x2 at *
   have f1r:=hq.out.cell_ d4a
   have f4r:=hq.out.cell_ G44.out
   have G3r:=Lib.hid (((Ext.refl wr).alloc_ (Obj.cells #[.int .u64 x1,.int .i64 x2] 140)).cell_ (hq.out.cell_ G34.out))
   have SM:=Lib.hid (SM4.out.ext hq.out)
   have l1:=smapU_look (hA.out.ext ((Ext.refl wr).alloc_ (Obj.cells #[.int .u64 x1,.int .i64 x2] 140))) x1
   have l2:=smap_look (hB.out.ext ((Ext.refl wr).alloc_ (Obj.cells #[.int .u64 x1,.int .i64 x2] 140))) x2
   have hgs:GShape wr gs:=hq.out.cell_ (HX4.out.cell_ HS.out)
   have z10:w1.heap.size<wr.heap.size:=by omega
   have zg:=cell_lt hgs
   have z11:w.heap.size+1+1<wr.heap.size:=by omega
   simp only at zg
   have hix:∀ W:World,(Instr.indexAt 80 (.slice S.I.1 M.ids.length S.I.2) (.int .i64 (k:Int))).run Tryz.prog W=.ok (.pointer (some ⟨ib,io+k*2,none⟩)) W:=fun W=>by
    rw[hIa];go_simp
   clear p1 p2 ci hIa
   obtain⟨T1,hT1⟩:∃ T:List Int,T=(M.ids.take k).map (·.1):=⟨_,rfl⟩
   obtain⟨T2,hT2⟩:∃ T:List Int,T=(M.ids.take k).map (·.2):=⟨_,rfl⟩
   rw[←hT1] at l1
   rw[←hT2] at l2
   have HT1:=Lib.hid hT1
   have HT2:=Lib.hid hT2
   clear hT1 hT2
   cases q1:(kindW x1 != 0) with
   | true =>
    have HB:Hid (idOK (startsM M) (M.ids.take k) (x1,x2)=false):=by rw[Hid,idOK_eq,←HT1.out,←HT2.out,q1];simp
    go_wp2_with (first
           | (go_at_call 103;refine (kind_any _ hb0 hb1 _).mono ?_;rintro e w' ⟨rfl,rfl⟩)
           | (go_at_call 137;refine (c2_any _ hb0 hb1 (w.heap.size+1) (w.heap.size+1+1) (startsM M) _ (SM.out.ext ((Ext.refl wr).alloc_ _)) G3r.out).mono ?_;rintro e w' ⟨rfl,rfl⟩))
    go_ret
    refine⟨?_,Ext.trans_ HX4.out (Ext.alloc_ hq.out _)⟩
    have hf:idsRes M gs gp=errV gs:=by unfold idsRes;rw[hP.out,HD.out,idsB,HB.out];rfl
    rw[hf];rfl
   | false =>
    cases q2:(x1==0) with
    | true =>
     have HB:Hid (idOK (startsM M) (M.ids.take k) (x1,x2)=false):=by rw[Hid,idOK_eq,←HT1.out,←HT2.out,q1,q2];simp
     go_wp2_with (first
            | (go_at_call 103;refine (kind_any _ hb0 hb1 _).mono ?_;rintro e w' ⟨rfl,rfl⟩)
            | (go_at_call 137;refine (c2_any _ hb0 hb1 (w.heap.size+1) (w.heap.size+1+1) (startsM M) _ (SM.out.ext ((Ext.refl wr).alloc_ _)) G3r.out).mono ?_;rintro e w' ⟨rfl,rfl⟩))
     go_ret
     refine⟨?_,Ext.trans_ HX4.out (Ext.alloc_ hq.out _)⟩
     have hf:idsRes M gs gp=errV gs:=by unfold idsRes;rw[hP.out,HD.out,idsB,HB.out];rfl
     rw[hf];rfl
    | false =>
     cases q3:fldB (startsM M) x1 with
     | false =>
      have HB:Hid (idOK (startsM M) (M.ids.take k) (x1,x2)=false):=by rw[Hid,idOK_eq,←HT1.out,←HT2.out,q1,q2,q3];simp
      go_wp2_with (first
             | (go_at_call 103;refine (kind_any _ hb0 hb1 _).mono ?_;rintro e w' ⟨rfl,rfl⟩)
             | (go_at_call 137;refine (c2_any _ hb0 hb1 (w.heap.size+1) (w.heap.size+1+1) (startsM M) _ (SM.out.ext ((Ext.refl wr).alloc_ _)) G3r.out).mono ?_;rintro e w' ⟨rfl,rfl⟩))
      go_ret
      refine⟨?_,Ext.trans_ HX4.out (Ext.alloc_ hq.out _)⟩
      have hf:idsRes M gs gp=errV gs:=by unfold idsRes;rw[hP.out,HD.out,idsB,HB.out];rfl
      rw[hf];rfl
     | true =>
      by_cases q4:x2<1
      ·
       have HB:Hid (idOK (startsM M) (M.ids.take k) (x1,x2)=false):=by rw[Hid,idOK_eq,←HT1.out,←HT2.out,q1,q2,q3,decide_eq_true q4];simp
       go_wp2_with (first
              | (go_at_call 103;refine (kind_any _ hb0 hb1 _).mono ?_;rintro e w' ⟨rfl,rfl⟩)
              | (go_at_call 137;refine (c2_any _ hb0 hb1 (w.heap.size+1) (w.heap.size+1+1) (startsM M) _ (SM.out.ext ((Ext.refl wr).alloc_ _)) G3r.out).mono ?_;rintro e w' ⟨rfl,rfl⟩))
       go_ret
       refine⟨?_,Ext.trans_ HX4.out (Ext.alloc_ hq.out _)⟩
       have hf:idsRes M gs gp=errV gs:=by unfold idsRes;rw[hP.out,HD.out,idsB,HB.out];rfl
       rw[hf];rfl
      ·cases q5:inSt T1 x1 with
       | true =>
        have HB:Hid (idOK (startsM M) (M.ids.take k) (x1,x2)=false):=by rw[Hid,idOK_eq,←HT1.out,←HT2.out,q1,q2,q3,decide_eq_false q4,q5];simp
        go_wp2_with (first
               | (go_at_call 103;refine (kind_any _ hb0 hb1 _).mono ?_;rintro e w' ⟨rfl,rfl⟩)
               | (go_at_call 137;refine (c2_any _ hb0 hb1 (w.heap.size+1) (w.heap.size+1+1) (startsM M) _ (SM.out.ext ((Ext.refl wr).alloc_ _)) G3r.out).mono ?_;rintro e w' ⟨rfl,rfl⟩))
        go_ret
        refine⟨?_,Ext.trans_ HX4.out (Ext.alloc_ hq.out _)⟩
        have hf:idsRes M gs gp=errV gs:=by unfold idsRes;rw[hP.out,HD.out,idsB,HB.out];rfl
        rw[hf];rfl
       | false =>
        cases q6:inSt T2 x2 with
        | true =>
         have HB:Hid (idOK (startsM M) (M.ids.take k) (x1,x2)=false):=by rw[Hid,idOK_eq,←HT1.out,←HT2.out,q1,q2,q3,decide_eq_false q4,q5,q6];simp
         go_wp2_with (first
                | (go_at_call 103;refine (kind_any _ hb0 hb1 _).mono ?_;rintro e w' ⟨rfl,rfl⟩)
                | (go_at_call 137;refine (c2_any _ hb0 hb1 (w.heap.size+1) (w.heap.size+1+1) (startsM M) _ (SM.out.ext ((Ext.refl wr).alloc_ _)) G3r.out).mono ?_;rintro e w' ⟨rfl,rfl⟩))
         go_ret
         refine⟨?_,Ext.trans_ HX4.out (Ext.alloc_ hq.out _)⟩
         have hf:idsRes M gs gp=errV gs:=by unfold idsRes;rw[hP.out,HD.out,idsB,HB.out];rfl
         rw[hf];rfl
        | false =>
         have HB:Hid (idOK (startsM M) (M.ids.take k) (x1,x2)=true):=by rw[Hid,idOK_eq,←HT1.out,←HT2.out,q1,q2,q3,decide_eq_false q4,q5,q6];rfl
         go_wp2_with (first
       | (go_at_call 103;refine (kind_any _ hb0 hb1 _).mono ?_;rintro e w' ⟨rfl,rfl⟩)
       | (go_at_call 137;refine (c2_any _ hb0 hb1 (w.heap.size+1) (w.heap.size+1+1) (startsM M) _ (SM.out.ext ((Ext.refl wr).alloc_ _)) G3r.out).mono ?_;rintro e w' ⟨rfl,rfl⟩))
         have z12:=hB.out.lt
         refine named_world (fun W5 hW5=>?_)
         have y1:W5.cell? ⟨wr.heap.size,0,none⟩=some (.int .u64 x1):=by rw[hW5];simp[go_sem]
         have y2:W5.cell? ⟨wr.heap.size,1,none⟩=some (.int .i64 x2):=by rw[hW5];simp[go_sem]
         have hx5:Ext wr W5:=by rw[hW5];repeat (first|exact Ext.refl _|(refine Ext.alloc_ ?_ _))
         have hE5:Ext w4 W5:=Ext.trans_ hq.out hx5
         have hA5:=hA.out.ext hx5
         have hB5:=hB.out.ext hx5
         obtain⟨wa,hu1,hm1,hb1⟩:=smapU_put (hA5.ext (Ext.refl W5).drew_) x1
         have hK1:=Keep.of_but hb1
         have e1:Ext w4 wa:=Ext.keep (Ext.trans_ hE5 (Ext.refl W5).drew_) hK1 (fun i hi=>by omega)
         have y3:=hK1.cell (p:=⟨wr.heap.size,0,none⟩) (by simp;omega) (show W5.drew.cell? _=_ from y1)
         have y4:=hK1.cell (p:=⟨wr.heap.size,1,none⟩) (by simp;omega) (show W5.drew.cell? _=_ from y2)
         obtain⟨wb,hu2,hm2,hb2⟩:=smap_put ((hB5.ext (Ext.refl W5).drew_).keep hK1 (by omega)) x2
         have hK2:=Keep.of_but hb2
         have e2:Ext w4 wb:=Ext.keep e1 hK2 (fun i hi=>by omega)
         have y5:=hK2.cell (p:=⟨wr.heap.size,0,none⟩) (by simp;omega) y3
         have y6:=hK2.cell (p:=⟨wr.heap.size,1,none⟩) (by simp;omega) y4
         have HM1:=Lib.hid (hm1.keep hK2 (by omega))
         have HM2:=Lib.hid hm2
         have HE9:=Lib.hid e2
         clear hW5 hA5 hB5 hx5 hE5 hm1 hm2 hb1 hb2 hK1 hK2 e1 e2
         refine wp_region_held_drew (S:=fun W=>W.cell? ⟨wr.heap.size,0,none⟩=some (.int .u64 x1)∧W.cell? ⟨wr.heap.size,1,none⟩=some (.int .i64 x2)) (by kernel_rfl) ?_ (fun hHeld=>?_)
         ·exact⟨y1,y2⟩
         refine tk 0 ⟨some 95,_,_,_,_,_⟩ ?_ rfl ?_ ?_
         rotate_left
         ·(intro w hSw;(try dsimp only at hSw);go_simp;try with_reducible rfl)
         try simp only[tkS]
         refine tk 1 ⟨some 96,_,_,_,_,_⟩ ?_ rfl ?_ ?_
         rotate_left
         ·(intro w hSw;(try dsimp only at hSw);go_simp;try with_reducible rfl)
         try simp only[tkS]
         refine tk 2 ⟨some 97,_,_,_,_,_⟩ ?_ rfl ?_ ?_
         rotate_left
         ·(intro w hSw;(try dsimp only at hSw);go_simp;try with_reducible rfl)
         try simp only[tkS]
         refine tk 3 ⟨some 98,_,_,_,_,_⟩ ?_ rfl ?_ ?_
         rotate_left
         ·(intro w hSw;(try dsimp only at hSw);go_simp;try with_reducible rfl)
         try simp only[tkS]
         refine tk 4 ⟨some 99,_,_,_,_,_⟩ ?_ rfl ?_ ?_
         rotate_left
         ·(intro w hSw;(try dsimp only at hSw);go_simp;try with_reducible rfl)
         try simp only[tkS]
         refine tk 5 ⟨some 100,_,_,_,_,_⟩ ?_ rfl ?_ ?_
         rotate_left
         ·(intro w hSw;(try dsimp only at hSw);go_simp;try with_reducible rfl)
         try simp only[tkS]
         refine wpAnyH_ready (rs:=[6]) (by kernel_rfl) (by simp) ?_
         refine AllReadyH.cons (o:=⟨none,_,_,_,_,_⟩) rfl (fun K hK=>?_) AllReadyH.nil
         go_simp
         skip
         refine hK.out _ _ ?_ (fun hHeld=>?_)
         ·(try dsimp only);exact⟨y3,y4⟩
         clear hK K
         try simp only[tkS]
         refine wpAnyH_ready (rs:=[7]) (by kernel_rfl) (by simp) ?_
         refine AllReadyH.cons (o:=⟨none,_,_,_,_,_⟩) rfl (fun K hK=>?_) AllReadyH.nil
         go_simp
         skip
         refine hK.out _ _ ?_ (fun hHeld=>?_)
         ·(try dsimp only);exact⟨y5,y6⟩
         clear hK K
         try simp only[tkS]
         refine wpAnyH_done (by kernel_rfl) ?_ _
         go_wp2
         go_roundw
         case rel =>
          have r1:SMap wb w4.heap.size .u64 ((M.ids.take (k+1)).map (·.1)):=by rw[HT.out,List.map_append];exact HM1.out
          have r2:SMap wb (w4.heap.size+1) .i64 ((M.ids.take (k+1)).map (·.2)):=by rw[HT.out,List.map_append];exact HM2.out
          have r3:idsB (startsM M) [] M.ids=idsB (startsM M) (M.ids.take (k+1)) (M.ids.drop (k+1)):=by rw[hP.out,HD.out,idsB,HB.out,HT.out];rfl
          first
           | exact⟨k+1,by omega,by go_num,r1,r2,r3,HE9.out⟩
           | ((repeat apply Exists.intro);exact⟨⟨k+1,by omega,by go_num,r1,r2,r3,HE9.out⟩,rfl⟩)
         case measure=>simp[intOf];omega
  ·obtain rfl:k=M.ids.length:=by omega
   have hc6r:=hq.out.cell_ C64.out
   have hgp:GPlace wr gp:=hq.out.cell_ (HX4.out.cell_ HP.out)
   have hT:idsB (startsM M) [] M.ids=true:=by rw[hP.out,List.drop_length];rfl
   have HTT:=Lib.hid hT
   clear hT
   cases hcd:cardsM M with
   | true =>
    have HCD:=Lib.hid hcd
    rw[hcd] at hc6r
    clear hcd
    go_wp2
    go_ret
    refine⟨?_,Ext.trans_ HX4.out hq.out⟩
    unfold idsRes;rw[HTT.out,HCD.out];rfl
   | false =>
    have HCD:=Lib.hid hcd
    rw[hcd] at hc6r
    clear hcd
    go_wp2
    go_ret
    refine⟨?_,Ext.trans_ HX4.out hq.out⟩
    unfold idsRes;rw[HTT.out,HCD.out];rfl
def chkV (M:Mem) (gs gp:Addr):Value:=if goodB M then (if cardsM M then .nilIface else errV gp) else errV gs
theorem check_0 (b o:Nat) (M:Mem) (S:Sls) (gs:Addr) (w:World) (hM:RMem w b o M S) (hS:GShape w gs) (hs:shapeB M=false) :
  Calls Tryz.prog 90 #[.pointer (some ⟨b,o,none⟩)] w fun e w'=>e=.returned (errV gs)∧Ext w w':=by
 have HM:=Lib.hid hM
 have hltb:=hM.lt
 have hltg:=cell_lt hS
 simp only at hltg
 clear hM
 go_enter Tryz.func90,Tryz.ntmps90
 go_wp2_with (first
  | (go_at_call 134;refine (shape_any _ b o M S ?_).mono ?_;(exact HM.out.ext ((Ext.refl w).alloc_ _));rintro e w' ⟨rfl,n,rfl⟩;rw[hs]))
 go_ret
 exact⟨rfl,((Ext.refl w).alloc_ _).drewN_ _⟩
theorem check_any (b o:Nat) (M:Mem) (S:Sls) (gb gs gp:Addr) (w:World) (hM:RMem w b o M S) (hG:GBound w gb) (hS:GShape w gs) (hP:GPlace w gp) :
  Calls Tryz.prog 90 #[.pointer (some ⟨b,o,none⟩)] w fun e w'=>e=.returned (chkV M gs gp)∧Ext w w':=by
 cases hs:shapeB M with
 | false =>
  have e:chkV M gs gp=errV gs:=by unfold chkV goodB;rw[hs];rfl
  rw[e];exact check_0 b o M S gs w hM hS hs
 | true =>
  cases h1:objsB M (okHd M) with
  | false =>
   have e:chkV M gs gp=errV gs:=by unfold chkV goodB;rw[hs,h1];rfl
   rw[e];exact check_a b o M S gb gs gp w hM hG hS hs h1
  | true =>
   cases h2:fieldsB (startsM M) M.roots with
   | false =>
    have e:chkV M gs gp=errV gs:=by unfold chkV goodB;rw[hs,h1,h2];rfl
    rw[e];exact check_b1 b o M S gb gs gp w hM hG hS hP hs h1 h2
   | true =>
    cases h3:fieldsB (startsM M) M.weak with
    | false =>
     have e:chkV M gs gp=errV gs:=by unfold chkV goodB;rw[hs,h1,h2,h3];rfl
     rw[e];exact check_b2 b o M S gb gs gp w hM hG hS hP hs h1 h2 h3
    | true =>
     have h5:=objsB_all (q:=okFld M (startsM M)) h1
     cases h4:objsB M (okFld M (startsM M)) with
     | false =>
      have e:chkV M gs gp=errV gs:=by unfold chkV goodB;rw[hs,h1,h2,h3,←h5,h4];rfl
      rw[e];exact check_b3 b o M S gb gs gp w hM hG hS hP hs h1 h2 h3 h4
     | true =>
      have e:chkV M gs gp=idsRes M gs gp:=by
       unfold chkV goodB idsRes
       rw[hs,h1,h2,h3,←h5,h4]
       simp
      rw[e];exact check_e b o M S gb gs gp w hM hG hS hP hs h1 h2 h3 h4
def errC (E:Nat→Addr) (c:Int):Value:=if c=0 then .nilIface else errV (E (c-1).toNat)
theorem chkV_errC (M:Mem) (E:Nat→Addr):chkV M (E 2) (E 4)=errC E (chk M):=by
 unfold chkV chk errC
 cases goodB M<;>cases cardsM M<;>rfl
theorem check_c (b o:Nat) (M:Mem) (S:Sls) (E:Nat→Addr) (w:World) (hM:RMem w b o M S) (hE:G3 E w) :
  Calls Tryz.prog 90 #[.pointer (some ⟨b,o,none⟩)] w fun e w'=>e=.returned (errC E (chk M))∧Ext w w':=by
 rw[←chkV_errC]
 exact check_any b o M S (E 1) (E 2) (E 4) w hM hE.bound hE.shape hE.place
theorem errC_pos (E:Nat→Addr) (c:Int) (h:c≠0):errC E c=errV (E (c-1).toNat):=if_neg h
theorem chk_zero {M:Mem} (h:chk M=0):goodB M=true∧cardsM M=true:=by
 unfold chk at h
 cases h1:goodB M<;>cases h2:cardsM M<;>simp[h1,h2] at h ⊢
theorem good_parts {M:Mem} (h:goodB M=true):Shp M∧objsB M (okHd M)=true∧fieldsB (startsM M) M.roots=true∧fieldsB (startsM M) M.weak=true∧(objsAll M).all (okFld M (startsM M))=true∧idsB (startsM M) [] M.ids=true:=by
 simp only[goodB,Bool.and_eq_true] at h
 obtain⟨⟨⟨⟨⟨h1,h2⟩,h3⟩,h4⟩,h5⟩,h6⟩:=h
 exact⟨shp_of h1,h2,h3,h4,h5,h6⟩
theorem sizeF0:(Tryz.prog.info? 78).map (·.size)=some 1:=by kernel_rfl
theorem run_tail {P:Program} {t e:TypeId} (ht:P.underlying t=some (.slice e)) (hz:∀ w,(sizeOf e).run P w=.ok 1 w) (g len cap i:Nat) (x:Int) (hx:x=(i:Int)) (hi:i≤len) (hc:len≤cap) :
  ∃ A C,(∀ w':World,(Instr.slice t (.slice (some ⟨g,0,none⟩) len cap) (some (.int .i64 x)) none none).run P w'=.ok (.slice A (len-i) C) w')∧(i<cap→A=some ⟨g,i,none⟩):=by
 have he:P.elem t=e:=by simp[Program.elem,ht]
 have ht':P.underlying t=some (.slice (P.elem t)):=by rw[he];exact ht
 refine⟨if cap=i then some ⟨g,0,none⟩ else some ⟨g,i,none⟩,cap-i,fun w'=>?_,fun h=>by rw[if_neg (by omega)]⟩
 subst hx
 rw[run_slice_l w' t (some ⟨g,0,none⟩) len cap ht' .i64 (i:Int) (by omega) (by omega),he,hz]
 simp[Result.andThen,sliced,Addr.add]
 split
 ·rfl
 ·split
  ·rename_i h0;subst h0;simp
  ·rfl
theorem wcells_splice (l fs:List Int) (off:Nat):wcells (splice l off fs)=splice (wcells l) off (wcells fs):=by
 simp[wcells,splice,List.map_take,List.map_drop]
section
variable {w5 w6:World} {B b:Nat} {M:Mem} {S:Sls} {kind size:Int} {g:Nat}
end
end Go.Proofs.YtelhoppfidibiaaGreatDoor
