/- The closed fact of Memory.shape's long region. -/
import Derived.Test.YtelhoppfidibiaaGreatDoorJXa07
import Derived.Laws.EntriesVeiled
set_option linter.unusedSimpArgs false
set_option linter.unusedVariables false
set_option maxHeartbeats 4000000
set_option maxRecDepth 100000
namespace Go.Proofs.YtelhoppfidibiaaGreatDoor
open Bool renaming eq_false_or_eq_true→Za
open Calls renaming quiet_of_same→Zb
open IntWalk renaming i64_in→Zc
open List renaming append_eq→Zd,cons_append→Ze,nil_append→Zf
open Go.Proofs.Tryz renaming prog→Zg
noncomputable def shapeOps:List Oper:=F0p Tryz.f134 2
theorem F5o:shapeOps.toArray.size=96:=by kernel_rfl
theorem F5n:Region.noSelect shapeOps.toArray=true:=by kernel_rfl
theorem F1u:(Region.ready .any shapeOps.toArray (lst 96 96)).isEmpty=true:=by kernel_rfl
theorem F1v:E6 .any shapeOps.toArray 96 0=true:=by kernel_rfl
theorem F1w:E6 .any shapeOps.toArray 96 1=true:=by kernel_rfl
theorem F2h:E6 .any shapeOps.toArray 96 2=true:=by kernel_rfl
theorem F2s:E6 .any shapeOps.toArray 96 3=true:=by kernel_rfl
theorem F3d:E6 .any shapeOps.toArray 96 4=true:=by kernel_rfl
theorem F3o:E6 .any shapeOps.toArray 96 5=true:=by kernel_rfl
theorem F3z:E6 .any shapeOps.toArray 96 6=true:=by kernel_rfl
theorem F4k:E6 .any shapeOps.toArray 96 7=true:=by kernel_rfl
theorem F4v:E6 .any shapeOps.toArray 96 8=true:=by kernel_rfl
theorem F5g:E6 .any shapeOps.toArray 96 9=true:=by kernel_rfl
theorem F1x:E6 .any shapeOps.toArray 96 10=true:=by kernel_rfl
theorem F1y:E6 .any shapeOps.toArray 96 11=true:=by kernel_rfl
theorem F1z:E6 .any shapeOps.toArray 96 12=true:=by kernel_rfl
theorem F2a:E6 .any shapeOps.toArray 96 13=true:=by kernel_rfl
theorem F2b:E6 .any shapeOps.toArray 96 14=true:=by kernel_rfl
theorem F2c:E6 .any shapeOps.toArray 96 15=true:=by kernel_rfl
theorem F2d:E6 .any shapeOps.toArray 96 16=true:=by kernel_rfl
theorem F2e:E6 .any shapeOps.toArray 96 17=true:=by kernel_rfl
theorem F2f:E6 .any shapeOps.toArray 96 18=true:=by kernel_rfl
theorem F2g:E6 .any shapeOps.toArray 96 19=true:=by kernel_rfl
theorem F2i:E6 .any shapeOps.toArray 96 20=true:=by kernel_rfl
theorem F2j:E6 .any shapeOps.toArray 96 21=true:=by kernel_rfl
theorem F2k:E6 .any shapeOps.toArray 96 22=true:=by kernel_rfl
theorem F2l:E6 .any shapeOps.toArray 96 23=true:=by kernel_rfl
theorem F2m:E6 .any shapeOps.toArray 96 24=true:=by kernel_rfl
theorem F2n:E6 .any shapeOps.toArray 96 25=true:=by kernel_rfl
theorem F2o:E6 .any shapeOps.toArray 96 26=true:=by kernel_rfl
theorem F2p:E6 .any shapeOps.toArray 96 27=true:=by kernel_rfl
theorem F2q:E6 .any shapeOps.toArray 96 28=true:=by kernel_rfl
theorem F2r:E6 .any shapeOps.toArray 96 29=true:=by kernel_rfl
theorem F2t:E6 .any shapeOps.toArray 96 30=true:=by kernel_rfl
theorem F2u:E6 .any shapeOps.toArray 96 31=true:=by kernel_rfl
theorem F2v:E6 .any shapeOps.toArray 96 32=true:=by kernel_rfl
theorem F2w:E6 .any shapeOps.toArray 96 33=true:=by kernel_rfl
theorem F2x:E6 .any shapeOps.toArray 96 34=true:=by kernel_rfl
theorem F2y:E6 .any shapeOps.toArray 96 35=true:=by kernel_rfl
theorem F2z:E6 .any shapeOps.toArray 96 36=true:=by kernel_rfl
theorem F3a:E6 .any shapeOps.toArray 96 37=true:=by kernel_rfl
theorem F3b:E6 .any shapeOps.toArray 96 38=true:=by kernel_rfl
theorem F3c:E6 .any shapeOps.toArray 96 39=true:=by kernel_rfl
theorem F3e:E6 .any shapeOps.toArray 96 40=true:=by kernel_rfl
theorem F3f:E6 .any shapeOps.toArray 96 41=true:=by kernel_rfl
theorem F3g:E6 .any shapeOps.toArray 96 42=true:=by kernel_rfl
theorem F3h:E6 .any shapeOps.toArray 96 43=true:=by kernel_rfl
theorem F3i:E6 .any shapeOps.toArray 96 44=true:=by kernel_rfl
theorem F3j:E6 .any shapeOps.toArray 96 45=true:=by kernel_rfl
theorem F3k:E6 .any shapeOps.toArray 96 46=true:=by kernel_rfl
theorem F3l:E6 .any shapeOps.toArray 96 47=true:=by kernel_rfl
theorem F3m:E6 .any shapeOps.toArray 96 48=true:=by kernel_rfl
theorem F3n:E6 .any shapeOps.toArray 96 49=true:=by kernel_rfl
theorem F3p:E6 .any shapeOps.toArray 96 50=true:=by kernel_rfl
theorem F3q:E6 .any shapeOps.toArray 96 51=true:=by kernel_rfl
theorem F3r:E6 .any shapeOps.toArray 96 52=true:=by kernel_rfl
theorem F3s:E6 .any shapeOps.toArray 96 53=true:=by kernel_rfl
theorem F3t:E6 .any shapeOps.toArray 96 54=true:=by kernel_rfl
theorem F3u:E6 .any shapeOps.toArray 96 55=true:=by kernel_rfl
theorem F3v:E6 .any shapeOps.toArray 96 56=true:=by kernel_rfl
theorem F3w:E6 .any shapeOps.toArray 96 57=true:=by kernel_rfl
theorem F3x:E6 .any shapeOps.toArray 96 58=true:=by kernel_rfl
theorem F3y:E6 .any shapeOps.toArray 96 59=true:=by kernel_rfl
theorem F4a:E6 .any shapeOps.toArray 96 60=true:=by kernel_rfl
theorem F4b:E6 .any shapeOps.toArray 96 61=true:=by kernel_rfl
theorem F4c:E6 .any shapeOps.toArray 96 62=true:=by kernel_rfl
theorem F4d:E6 .any shapeOps.toArray 96 63=true:=by kernel_rfl
theorem F4e:E6 .any shapeOps.toArray 96 64=true:=by kernel_rfl
theorem F4f:E6 .any shapeOps.toArray 96 65=true:=by kernel_rfl
theorem F4g:E6 .any shapeOps.toArray 96 66=true:=by kernel_rfl
theorem F4h:E6 .any shapeOps.toArray 96 67=true:=by kernel_rfl
theorem F4i:E6 .any shapeOps.toArray 96 68=true:=by kernel_rfl
theorem F4j:E6 .any shapeOps.toArray 96 69=true:=by kernel_rfl
theorem F4l:E6 .any shapeOps.toArray 96 70=true:=by kernel_rfl
theorem F4m:E6 .any shapeOps.toArray 96 71=true:=by kernel_rfl
theorem F4n:E6 .any shapeOps.toArray 96 72=true:=by kernel_rfl
theorem F4o:E6 .any shapeOps.toArray 96 73=true:=by kernel_rfl
theorem F4p:E6 .any shapeOps.toArray 96 74=true:=by kernel_rfl
theorem F4q:E6 .any shapeOps.toArray 96 75=true:=by kernel_rfl
theorem F4r:E6 .any shapeOps.toArray 96 76=true:=by kernel_rfl
theorem F4s:E6 .any shapeOps.toArray 96 77=true:=by kernel_rfl
theorem F4t:E6 .any shapeOps.toArray 96 78=true:=by kernel_rfl
theorem F4u:E6 .any shapeOps.toArray 96 79=true:=by kernel_rfl
theorem F4w:E6 .any shapeOps.toArray 96 80=true:=by kernel_rfl
theorem F4x:E6 .any shapeOps.toArray 96 81=true:=by kernel_rfl
theorem F4y:E6 .any shapeOps.toArray 96 82=true:=by kernel_rfl
theorem F4z:E6 .any shapeOps.toArray 96 83=true:=by kernel_rfl
theorem F5a:E6 .any shapeOps.toArray 96 84=true:=by kernel_rfl
theorem F5b:E6 .any shapeOps.toArray 96 85=true:=by kernel_rfl
theorem F5c:E6 .any shapeOps.toArray 96 86=true:=by kernel_rfl
theorem F5d:E6 .any shapeOps.toArray 96 87=true:=by kernel_rfl
theorem F5e:E6 .any shapeOps.toArray 96 88=true:=by kernel_rfl
theorem F5f:E6 .any shapeOps.toArray 96 89=true:=by kernel_rfl
theorem F5h:E6 .any shapeOps.toArray 96 90=true:=by kernel_rfl
theorem F5i:E6 .any shapeOps.toArray 96 91=true:=by kernel_rfl
theorem F5j:E6 .any shapeOps.toArray 96 92=true:=by kernel_rfl
theorem F5k:E6 .any shapeOps.toArray 96 93=true:=by kernel_rfl
theorem F5l:E6 .any shapeOps.toArray 96 94=true:=by kernel_rfl
theorem F5m:E6 .any shapeOps.toArray 96 95=true:=by kernel_rfl
theorem A8p:Region.lexB .any shapeOps.toArray=true:=by
 refine E4w _ _ 96 F5o F5n (fun k hk=>?_) F1u
 match k,hk with
 | 0,_=>exact F1v
 | 1,_=>exact F1w
 | 2,_=>exact F2h
 | 3,_=>exact F2s
 | 4,_=>exact F3d
 | 5,_=>exact F3o
 | 6,_=>exact F3z
 | 7,_=>exact F4k
 | 8,_=>exact F4v
 | 9,_=>exact F5g
 | 10,_=>exact F1x
 | 11,_=>exact F1y
 | 12,_=>exact F1z
 | 13,_=>exact F2a
 | 14,_=>exact F2b
 | 15,_=>exact F2c
 | 16,_=>exact F2d
 | 17,_=>exact F2e
 | 18,_=>exact F2f
 | 19,_=>exact F2g
 | 20,_=>exact F2i
 | 21,_=>exact F2j
 | 22,_=>exact F2k
 | 23,_=>exact F2l
 | 24,_=>exact F2m
 | 25,_=>exact F2n
 | 26,_=>exact F2o
 | 27,_=>exact F2p
 | 28,_=>exact F2q
 | 29,_=>exact F2r
 | 30,_=>exact F2t
 | 31,_=>exact F2u
 | 32,_=>exact F2v
 | 33,_=>exact F2w
 | 34,_=>exact F2x
 | 35,_=>exact F2y
 | 36,_=>exact F2z
 | 37,_=>exact F3a
 | 38,_=>exact F3b
 | 39,_=>exact F3c
 | 40,_=>exact F3e
 | 41,_=>exact F3f
 | 42,_=>exact F3g
 | 43,_=>exact F3h
 | 44,_=>exact F3i
 | 45,_=>exact F3j
 | 46,_=>exact F3k
 | 47,_=>exact F3l
 | 48,_=>exact F3m
 | 49,_=>exact F3n
 | 50,_=>exact F3p
 | 51,_=>exact F3q
 | 52,_=>exact F3r
 | 53,_=>exact F3s
 | 54,_=>exact F3t
 | 55,_=>exact F3u
 | 56,_=>exact F3v
 | 57,_=>exact F3w
 | 58,_=>exact F3x
 | 59,_=>exact F3y
 | 60,_=>exact F4a
 | 61,_=>exact F4b
 | 62,_=>exact F4c
 | 63,_=>exact F4d
 | 64,_=>exact F4e
 | 65,_=>exact F4f
 | 66,_=>exact F4g
 | 67,_=>exact F4h
 | 68,_=>exact F4i
 | 69,_=>exact F4j
 | 70,_=>exact F4l
 | 71,_=>exact F4m
 | 72,_=>exact F4n
 | 73,_=>exact F4o
 | 74,_=>exact F4p
 | 75,_=>exact F4q
 | 76,_=>exact F4r
 | 77,_=>exact F4s
 | 78,_=>exact F4t
 | 79,_=>exact F4u
 | 80,_=>exact F4w
 | 81,_=>exact F4x
 | 82,_=>exact F4y
 | 83,_=>exact F4z
 | 84,_=>exact F5a
 | 85,_=>exact F5b
 | 86,_=>exact F5c
 | 87,_=>exact F5d
 | 88,_=>exact F5e
 | 89,_=>exact F5f
 | 90,_=>exact F5h
 | 91,_=>exact F5i
 | 92,_=>exact F5j
 | 93,_=>exact F5k
 | 94,_=>exact F5l
 | 95,_=>exact F5m
 | n+96,h=>omega
open Go.RowKit
theorem A7d (a lo hi:Int) (w:World):Calls Zg 159 #[.int .i64 a,.int .i64 lo,.int .i64 hi] w fun e w'=>e=.returned (.bool (H0 a lo hi))∧w'=w:=by
 by_cases h:lo≤a
 ·have e:H0 a lo hi=decide (a≤hi):=by simp[H0,h]
  rw[e]
  go_enter Tryz.func159,Tryz.ntmps159
  go_wp2;go_ret;exact⟨rfl,rfl⟩
 ·have e:H0 a lo hi=false:=by simp[H0,h]
  rw[e]
  go_enter Tryz.func159,Tryz.ntmps159
  go_wp2;go_ret;exact⟨rfl,rfl⟩
theorem A8j {l l':List Oper} (h:l=l') (hB:Region.lexB .any l'.toArray=true):Region.lexB .any l.toArray=true:=h ▸ hB
theorem R3 {a lo hi:Int} {r:Bool} (h:H0 a lo hi=r) (w:World):Calls Zg 159 #[.int .i64 a,.int .i64 lo,.int .i64 hi] w fun e w'=>e=.returned (.bool r)∧w'=w:=by
 rw[←h];exact A7d a lo hi w
theorem F1l (w:World) (b o:Nat) (M:A7) (S:C8) (hM:G8 w b o M S) (h0:H0 M.half 1 65536=false) :
  Calls Zg 134 #[.pointer (some ⟨b,o,none⟩)] w fun e w'=>e=.returned (.bool false)∧∃ n,w'=w.drewN n:=by
 have c_half:=hM.half;have c_old:=hM.old;have c_card:=hM.card;have c_W:=hM.W;have c_used:=hM.used;have c_top:=hM.top;have c_oldTop:=hM.oldTop;have c_cards:=hM.cards;have hl:=hM.ok.lenW;have hl2:=hM.ok.lenC;clear hM
 go_enter Tryz.func134,Tryz.ntmps134
 go_wp2_with (go_at_call 159;refine (A7d _ _ _ _).mono ?_;rintro e w' ⟨rfl,rfl⟩)
 simp only[Zd,Ze,Zf];refine wp_region_quiet_lit (by kernel_rfl) (A8j (by kernel_rfl) A8p) ?_
 repeat (go_big_quiet_step ((go_at_call 159;first|(with_reducible exact Zb (R3 h0 _)))))
 refine wpQuiet_nil ?_;intro _ hw';obtain⟨nq,hw''⟩:=hw';subst hw'';go_wp2;go_ret;exact⟨rfl,_,rfl⟩
theorem F1m (w:World) (b o:Nat) (M:A7) (S:C8) (hM:G8 w b o M S) (h0:H0 M.half 1 65536=true) (h1:H0 M.old 1 65536=false) :
  Calls Zg 134 #[.pointer (some ⟨b,o,none⟩)] w fun e w'=>e=.returned (.bool false)∧∃ n,w'=w.drewN n:=by
 have c_half:=hM.half;have c_old:=hM.old;have c_card:=hM.card;have c_W:=hM.W;have c_used:=hM.used;have c_top:=hM.top;have c_oldTop:=hM.oldTop;have c_cards:=hM.cards;have hl:=hM.ok.lenW;have hl2:=hM.ok.lenC;obtain⟨b1,b2⟩:=P0.1 h0;clear hM
 go_enter Tryz.func134,Tryz.ntmps134
 go_wp2_with (go_at_call 159;refine (A7d _ _ _ _).mono ?_;rintro e w' ⟨rfl,rfl⟩)
 simp only[Zd,Ze,Zf];refine wp_region_quiet_lit (by kernel_rfl) (A8j (by kernel_rfl) A8p) ?_
 repeat (go_big_quiet_step ((go_at_call 159;first|(with_reducible exact Zb (R3 h0 _))|(with_reducible exact Zb (R3 h1 _)))))
 refine wpQuiet_nil ?_;intro _ hw';obtain⟨nq,hw''⟩:=hw';subst hw'';go_wp2;go_ret;exact⟨rfl,_,rfl⟩
theorem F1n (w:World) (b o:Nat) (M:A7) (S:C8) (hM:G8 w b o M S) (h0:H0 M.half 1 65536=true) (h1:H0 M.old 1 65536=true) (h2:H0 M.card 1 1024=false) :
  Calls Zg 134 #[.pointer (some ⟨b,o,none⟩)] w fun e w'=>e=.returned (.bool false)∧∃ n,w'=w.drewN n:=by
 have c_half:=hM.half;have c_old:=hM.old;have c_card:=hM.card;have c_W:=hM.W;have c_used:=hM.used;have c_top:=hM.top;have c_oldTop:=hM.oldTop;have c_cards:=hM.cards;have hl:=hM.ok.lenW;have hl2:=hM.ok.lenC;obtain⟨b1,b2⟩:=P0.1 h0;obtain⟨b3,b4⟩:=P0.1 h1;clear hM
 go_enter Tryz.func134,Tryz.ntmps134
 go_wp2_with (go_at_call 159;refine (A7d _ _ _ _).mono ?_;rintro e w' ⟨rfl,rfl⟩)
 simp only[Zd,Ze,Zf];refine wp_region_quiet_lit (by kernel_rfl) (A8j (by kernel_rfl) A8p) ?_
 repeat (go_big_quiet_step ((go_at_call 159;first|(with_reducible exact Zb (R3 h0 _))|(with_reducible exact Zb (R3 h1 _))|(with_reducible exact Zb (R3 h2 _)))))
 refine wpQuiet_nil ?_;intro _ hw';obtain⟨nq,hw''⟩:=hw';subst hw'';go_wp2;go_ret;exact⟨rfl,_,rfl⟩
theorem F1o (w:World) (b o:Nat) (M:A7) (S:C8) (hM:G8 w b o M S) (h0:H0 M.half 1 65536=true) (h1:H0 M.old 1 65536=true) (h2:H0 M.card 1 1024=true) (h3:((M.W.length:Int)==2*M.half+M.old)=false) :
  Calls Zg 134 #[.pointer (some ⟨b,o,none⟩)] w fun e w'=>e=.returned (.bool false)∧∃ n,w'=w.drewN n:=by
 have c_half:=hM.half;have c_old:=hM.old;have c_card:=hM.card;have c_W:=hM.W;have c_used:=hM.used;have c_top:=hM.top;have c_oldTop:=hM.oldTop;have c_cards:=hM.cards;have hl:=hM.ok.lenW;have hl2:=hM.ok.lenC;obtain⟨b1,b2⟩:=P0.1 h0;obtain⟨b3,b4⟩:=P0.1 h1;obtain⟨b5,b6⟩:=P0.1 h2;have e0:IntKind.i64.wrap (2*M.half)=2*M.half:=Zc _ (by omega);have e1:IntKind.i64.wrap (2*M.half+M.old)=2*M.half+M.old:=Zc _ (by omega);clear hM
 go_enter Tryz.func134,Tryz.ntmps134
 go_wp2_with (go_at_call 159;refine (A7d _ _ _ _).mono ?_;rintro e w' ⟨rfl,rfl⟩)
 simp only[Zd,Ze,Zf];refine wp_region_quiet_lit (by kernel_rfl) (A8j (by kernel_rfl) A8p) ?_
 repeat (go_big_quiet_step ((go_at_call 159;first|(with_reducible exact Zb (R3 h0 _))|(with_reducible exact Zb (R3 h1 _))|(with_reducible exact Zb (R3 h2 _)))))
 refine wpQuiet_nil ?_;intro _ hw';obtain⟨nq,hw''⟩:=hw';subst hw'';go_wp2;go_ret;exact⟨rfl,_,rfl⟩
theorem F1p (w:World) (b o:Nat) (M:A7) (S:C8) (hM:G8 w b o M S) (h0:H0 M.half 1 65536=true) (h1:H0 M.old 1 65536=true) (h2:H0 M.card 1 1024=true) (h3:((M.W.length:Int)==2*M.half+M.old)=true) (h4:H0 M.used 0 1=false) :
  Calls Zg 134 #[.pointer (some ⟨b,o,none⟩)] w fun e w'=>e=.returned (.bool false)∧∃ n,w'=w.drewN n:=by
 have c_half:=hM.half;have c_old:=hM.old;have c_card:=hM.card;have c_W:=hM.W;have c_used:=hM.used;have c_top:=hM.top;have c_oldTop:=hM.oldTop;have c_cards:=hM.cards;have hl:=hM.ok.lenW;have hl2:=hM.ok.lenC;obtain⟨b1,b2⟩:=P0.1 h0;obtain⟨b3,b4⟩:=P0.1 h1;obtain⟨b5,b6⟩:=P0.1 h2;have e0:IntKind.i64.wrap (2*M.half)=2*M.half:=Zc _ (by omega);have e1:IntKind.i64.wrap (2*M.half+M.old)=2*M.half+M.old:=Zc _ (by omega);clear hM
 go_enter Tryz.func134,Tryz.ntmps134
 go_wp2_with (go_at_call 159;refine (A7d _ _ _ _).mono ?_;rintro e w' ⟨rfl,rfl⟩)
 simp only[Zd,Ze,Zf];refine wp_region_quiet_lit (by kernel_rfl) (A8j (by kernel_rfl) A8p) ?_
 repeat (go_big_quiet_step ((go_at_call 159;first|(with_reducible exact Zb (R3 h0 _))|(with_reducible exact Zb (R3 h1 _))|(with_reducible exact Zb (R3 h2 _))|(with_reducible exact Zb (R3 h4 _)))))
 refine wpQuiet_nil ?_;intro _ hw';obtain⟨nq,hw''⟩:=hw';subst hw'';go_wp2;go_ret;exact⟨rfl,_,rfl⟩
theorem F1q (w:World) (b o:Nat) (M:A7) (S:C8) (hM:G8 w b o M S) (h0:H0 M.half 1 65536=true) (h1:H0 M.old 1 65536=true) (h2:H0 M.card 1 1024=true) (h3:((M.W.length:Int)==2*M.half+M.old)=true) (h4:H0 M.used 0 1=true) (h5:H0 M.top 0 M.half=false) :
  Calls Zg 134 #[.pointer (some ⟨b,o,none⟩)] w fun e w'=>e=.returned (.bool false)∧∃ n,w'=w.drewN n:=by
 have c_half:=hM.half;have c_old:=hM.old;have c_card:=hM.card;have c_W:=hM.W;have c_used:=hM.used;have c_top:=hM.top;have c_oldTop:=hM.oldTop;have c_cards:=hM.cards;have hl:=hM.ok.lenW;have hl2:=hM.ok.lenC;obtain⟨b1,b2⟩:=P0.1 h0;obtain⟨b3,b4⟩:=P0.1 h1;obtain⟨b5,b6⟩:=P0.1 h2;have e0:IntKind.i64.wrap (2*M.half)=2*M.half:=Zc _ (by omega);have e1:IntKind.i64.wrap (2*M.half+M.old)=2*M.half+M.old:=Zc _ (by omega);clear hM
 go_enter Tryz.func134,Tryz.ntmps134
 go_wp2_with (go_at_call 159;refine (A7d _ _ _ _).mono ?_;rintro e w' ⟨rfl,rfl⟩)
 simp only[Zd,Ze,Zf];refine wp_region_quiet_lit (by kernel_rfl) (A8j (by kernel_rfl) A8p) ?_
 repeat (go_big_quiet_step ((go_at_call 159;first|(with_reducible exact Zb (R3 h0 _))|(with_reducible exact Zb (R3 h1 _))|(with_reducible exact Zb (R3 h2 _))|(with_reducible exact Zb (R3 h4 _))|(with_reducible exact Zb (R3 h5 _)))))
 refine wpQuiet_nil ?_;intro _ hw';obtain⟨nq,hw''⟩:=hw';subst hw'';go_wp2;go_ret;exact⟨rfl,_,rfl⟩
theorem F1r (w:World) (b o:Nat) (M:A7) (S:C8) (hM:G8 w b o M S) (h0:H0 M.half 1 65536=true) (h1:H0 M.old 1 65536=true) (h2:H0 M.card 1 1024=true) (h3:((M.W.length:Int)==2*M.half+M.old)=true) (h4:H0 M.used 0 1=true) (h5:H0 M.top 0 M.half=true) (h6:H0 M.oldTop 0 M.old=false) :
  Calls Zg 134 #[.pointer (some ⟨b,o,none⟩)] w fun e w'=>e=.returned (.bool false)∧∃ n,w'=w.drewN n:=by
 have c_half:=hM.half;have c_old:=hM.old;have c_card:=hM.card;have c_W:=hM.W;have c_used:=hM.used;have c_top:=hM.top;have c_oldTop:=hM.oldTop;have c_cards:=hM.cards;have hl:=hM.ok.lenW;have hl2:=hM.ok.lenC;obtain⟨b1,b2⟩:=P0.1 h0;obtain⟨b3,b4⟩:=P0.1 h1;obtain⟨b5,b6⟩:=P0.1 h2;have e0:IntKind.i64.wrap (2*M.half)=2*M.half:=Zc _ (by omega);have e1:IntKind.i64.wrap (2*M.half+M.old)=2*M.half+M.old:=Zc _ (by omega);clear hM
 go_enter Tryz.func134,Tryz.ntmps134
 go_wp2_with (go_at_call 159;refine (A7d _ _ _ _).mono ?_;rintro e w' ⟨rfl,rfl⟩)
 simp only[Zd,Ze,Zf];refine wp_region_quiet_lit (by kernel_rfl) (A8j (by kernel_rfl) A8p) ?_
 repeat (go_big_quiet_step ((go_at_call 159;first|(with_reducible exact Zb (R3 h0 _))|(with_reducible exact Zb (R3 h1 _))|(with_reducible exact Zb (R3 h2 _))|(with_reducible exact Zb (R3 h4 _))|(with_reducible exact Zb (R3 h5 _))|(with_reducible exact Zb (R3 h6 _)))))
 refine wpQuiet_nil ?_;intro _ hw';obtain⟨nq,hw''⟩:=hw';subst hw'';go_wp2;go_ret;exact⟨rfl,_,rfl⟩
theorem F1s (w:World) (b o:Nat) (M:A7) (S:C8) (hM:G8 w b o M S) (h0:H0 M.half 1 65536=true) (h1:H0 M.old 1 65536=true) (h2:H0 M.card 1 1024=true) (h3:((M.W.length:Int)==2*M.half+M.old)=true) (h4:H0 M.used 0 1=true) (h5:H0 M.top 0 M.half=true) (h6:H0 M.oldTop 0 M.old=true) (h7:((M.cards.length:Int)==(M.old+M.card-1)/M.card)=false) :
  Calls Zg 134 #[.pointer (some ⟨b,o,none⟩)] w fun e w'=>e=.returned (.bool false)∧∃ n,w'=w.drewN n:=by
 have c_half:=hM.half;have c_old:=hM.old;have c_card:=hM.card;have c_W:=hM.W;have c_used:=hM.used;have c_top:=hM.top;have c_oldTop:=hM.oldTop;have c_cards:=hM.cards;have hl:=hM.ok.lenW;have hl2:=hM.ok.lenC;obtain⟨b1,b2⟩:=P0.1 h0;obtain⟨b3,b4⟩:=P0.1 h1;obtain⟨b5,b6⟩:=P0.1 h2;have e0:IntKind.i64.wrap (2*M.half)=2*M.half:=Zc _ (by omega);have e1:IntKind.i64.wrap (2*M.half+M.old)=2*M.half+M.old:=Zc _ (by omega);have e2:IntKind.i64.wrap (M.old+M.card)=M.old+M.card:=Zc _ (by omega);have e3:IntKind.i64.wrap (M.old+M.card-1)=M.old+M.card-1:=Zc _ (by omega);have e4:(M.old+M.card-1).tdiv M.card=(M.old+M.card-1)/M.card:=Int.tdiv_eq_ediv_of_nonneg (by omega);have e6:0≤(M.old+M.card-1)/M.card:=Int.ediv_nonneg (by omega) (by omega);have e7:(M.old+M.card-1)/M.card≤M.old+M.card-1:=Int.ediv_le_self _ (by omega);have e5:IntKind.i64.wrap ((M.old+M.card-1)/M.card)=(M.old+M.card-1)/M.card:=Zc _ (by omega);have e8:(M.card==0)=false:=by simp;omega
 clear e6 e7;clear hM
 go_enter Tryz.func134,Tryz.ntmps134
 go_wp2_with (go_at_call 159;refine (A7d _ _ _ _).mono ?_;rintro e w' ⟨rfl,rfl⟩)
 simp only[Zd,Ze,Zf];refine wp_region_quiet_lit (by kernel_rfl) (A8j (by kernel_rfl) A8p) ?_
 repeat (go_big_quiet_step ((go_at_call 159;first|(with_reducible exact Zb (R3 h0 _))|(with_reducible exact Zb (R3 h1 _))|(with_reducible exact Zb (R3 h2 _))|(with_reducible exact Zb (R3 h4 _))|(with_reducible exact Zb (R3 h5 _))|(with_reducible exact Zb (R3 h6 _)))))
 refine wpQuiet_nil ?_;intro _ hw';obtain⟨nq,hw''⟩:=hw';subst hw'';go_wp2;go_ret;exact⟨rfl,_,rfl⟩
theorem F1t (w:World) (b o:Nat) (M:A7) (S:C8) (hM:G8 w b o M S) (h0:H0 M.half 1 65536=true) (h1:H0 M.old 1 65536=true) (h2:H0 M.card 1 1024=true) (h3:((M.W.length:Int)==2*M.half+M.old)=true) (h4:H0 M.used 0 1=true) (h5:H0 M.top 0 M.half=true) (h6:H0 M.oldTop 0 M.old=true) (h7:((M.cards.length:Int)==(M.old+M.card-1)/M.card)=true) :
  Calls Zg 134 #[.pointer (some ⟨b,o,none⟩)] w fun e w'=>e=.returned (.bool true)∧∃ n,w'=w.drewN n:=by
 have c_half:=hM.half;have c_old:=hM.old;have c_card:=hM.card;have c_W:=hM.W;have c_used:=hM.used;have c_top:=hM.top;have c_oldTop:=hM.oldTop;have c_cards:=hM.cards;have hl:=hM.ok.lenW;have hl2:=hM.ok.lenC;obtain⟨b1,b2⟩:=P0.1 h0;obtain⟨b3,b4⟩:=P0.1 h1;obtain⟨b5,b6⟩:=P0.1 h2;have e0:IntKind.i64.wrap (2*M.half)=2*M.half:=Zc _ (by omega);have e1:IntKind.i64.wrap (2*M.half+M.old)=2*M.half+M.old:=Zc _ (by omega);have e2:IntKind.i64.wrap (M.old+M.card)=M.old+M.card:=Zc _ (by omega);have e3:IntKind.i64.wrap (M.old+M.card-1)=M.old+M.card-1:=Zc _ (by omega);have e4:(M.old+M.card-1).tdiv M.card=(M.old+M.card-1)/M.card:=Int.tdiv_eq_ediv_of_nonneg (by omega);have e6:0≤(M.old+M.card-1)/M.card:=Int.ediv_nonneg (by omega) (by omega);have e7:(M.old+M.card-1)/M.card≤M.old+M.card-1:=Int.ediv_le_self _ (by omega);have e5:IntKind.i64.wrap ((M.old+M.card-1)/M.card)=(M.old+M.card-1)/M.card:=Zc _ (by omega);have e8:(M.card==0)=false:=by simp;omega
 clear e6 e7;clear hM
 go_enter Tryz.func134,Tryz.ntmps134
 go_wp2_with (go_at_call 159;refine (A7d _ _ _ _).mono ?_;rintro e w' ⟨rfl,rfl⟩)
 simp only[Zd,Ze,Zf];refine wp_region_quiet_lit (by kernel_rfl) (A8j (by kernel_rfl) A8p) ?_
 repeat (go_big_quiet_step ((go_at_call 159;first|(with_reducible exact Zb (R3 h0 _))|(with_reducible exact Zb (R3 h1 _))|(with_reducible exact Zb (R3 h2 _))|(with_reducible exact Zb (R3 h4 _))|(with_reducible exact Zb (R3 h5 _))|(with_reducible exact Zb (R3 h6 _)))))
 refine wpQuiet_nil ?_;intro _ hw';obtain⟨nq,hw''⟩:=hw';subst hw'';go_wp2;go_ret;exact⟨rfl,_,rfl⟩
theorem B2m (w:World) (b o:Nat) (M:A7) (S:C8) (hM:G8 w b o M S) :
  Calls Zg 134 #[.pointer (some ⟨b,o,none⟩)] w fun e w'=>e=.returned (.bool (P1 M))∧∃ n,w'=w.drewN n:=by
 rcases Za (H0 M.half 1 65536) with h0|h0;rotate_left
 ·have e:P1 M=false:=by unfold P1;rw[h0];simp
  rw[e];exact F1l w b o M S hM h0
 rcases Za (H0 M.old 1 65536) with h1|h1;rotate_left
 ·have e:P1 M=false:=by unfold P1;rw[h0,h1];simp
  rw[e];exact F1m w b o M S hM h0 h1
 rcases Za (H0 M.card 1 1024) with h2|h2;rotate_left
 ·have e:P1 M=false:=by unfold P1;rw[h0,h1,h2];simp
  rw[e];exact F1n w b o M S hM h0 h1 h2
 rcases Za (((M.W.length:Int)==2*M.half+M.old)) with h3|h3;rotate_left
 ·have e:P1 M=false:=by unfold P1;rw[h0,h1,h2,h3];simp
  rw[e];exact F1o w b o M S hM h0 h1 h2 h3
 rcases Za (H0 M.used 0 1) with h4|h4;rotate_left
 ·have e:P1 M=false:=by unfold P1;rw[h0,h1,h2,h3,h4];simp
  rw[e];exact F1p w b o M S hM h0 h1 h2 h3 h4
 rcases Za (H0 M.top 0 M.half) with h5|h5;rotate_left
 ·have e:P1 M=false:=by unfold P1;rw[h0,h1,h2,h3,h4,h5];simp
  rw[e];exact F1q w b o M S hM h0 h1 h2 h3 h4 h5
 rcases Za (H0 M.oldTop 0 M.old) with h6|h6;rotate_left
 ·have e:P1 M=false:=by unfold P1;rw[h0,h1,h2,h3,h4,h5,h6];simp
  rw[e];exact F1r w b o M S hM h0 h1 h2 h3 h4 h5 h6
 rcases Za (((M.cards.length:Int)==(M.old+M.card-1)/M.card)) with h7|h7;rotate_left
 ·have e:P1 M=false:=by unfold P1;rw[h0,h1,h2,h3,h4,h5,h6,h7];simp
  rw[e];exact F1s w b o M S hM h0 h1 h2 h3 h4 h5 h6 h7
 have e:P1 M=true:=by unfold P1;rw[h0,h1,h2,h3,h4,h5,h6,h7];rfl
 rw[e];exact F1t w b o M S hM h0 h1 h2 h3 h4 h5 h6 h7
theorem N9.made_ {w w':World} {b:Nat} (q:IntKind) (hb:w.heap.size=b) (hx:A0 (w.alloc (.map #[] 0)) w'):N9 w' b q []:=by
 subst hb;exact (N9.made w q).ext hx
theorem D6t (b o:Nat) (M:A7) (S:C8) (gb gs gp:Addr) (w:World) (hM:G8 w b o M S) (hG:A1o w gb) (hS:A0d w gs) (hs:P1 M=true) (h1:M9 M (L3 M)=false) :
  Calls Zg 90 #[.pointer (some ⟨b,o,none⟩)] w fun e w'=>e=.returned (E0 gs)∧A0 w w':=by
 have hh:=A9r hs;have hmm:=@run_makeMap Zg;have HM:=Hz hM;have HG:=Hz hG;have HH:=Hz hh;have hltb:=hM.lt;have hltg:=B9 hS;simp only at hltg;clear hM hG hh
 go_enter Tryz.func90,Tryz.ntmps90
 go_wp2_with (first
  | (go_at_call 134;refine (B2m _ b o M S ?_).mono ?_;(exact HM.out.ext ((A0.refl w).alloc_ _));rintro e w' ⟨rfl,n,rfl⟩;rw[hs]))
 refine (B4n w b o M S HH.out HM.out gb gs HG.out hS (w.heap.size+1) (w.heap.size+1+1) w.heap.size _ ?_ (by omega) (by omega) (by omega) ?_ ?_ ?_).mono ?_
 ·repeat (first|exact A0.refl _|(refine A0.set_ ?_ (by simp) _)|(refine A0.alloc_ ?_ _)|(refine A0.drewN_ ?_ _))
 ·exact N9.made_ (w:=(w.alloc _).drewN n) _ (by simp) (by repeat (first|exact A0.refl _|(refine A0.set_ ?_ (by simp) _)|(refine A0.alloc_ ?_ _)))
 ·simp[go_sem]
 ·simp[go_sem]
 rintro e w1 ⟨rfl,hsm,hK⟩;rw[h1];have hx:A0 w w1:=A0.keep (by repeat (first|exact A0.refl _|(refine A0.set_ ?_ (by simp) _)|(refine A0.alloc_ ?_ _)|(refine A0.drewN_ ?_ _))) hK (fun i hi=>by omega);have hS1:A0d w1 gs:=hx.cell_ hS;clear hsm hK;go_wp2;go_ret;exact⟨rfl,hx⟩
def B3w (M:A7) (kind size:Int):A7:={M with W:=M.W.set (M.base+M.top.toNat) (J7 kind 0 0 size),top:=M.top+1+size}
def D3n (w:World) (B b:Nat) (M:A7) (S:C8) (kind size:Int) (e:Ending) (w':World):Prop :=
 e=.returned (.int .i64 ((M.base+M.top.toNat:Nat):Int))∧B7 w' B b 140 (B3w M kind size) S∧A8 (A5u b S) w w'
theorem E0t (B b:Nat) (M:A7) (S:C8) (w:World) (hO:B7 w B b 140 M S) (hok:M.Ok) (hs:G2 M) (kind size:Int) (hk:0≤kind∧kind≤255) (hz:0≤size∧size≤4096) (hr:M.top+1+size≤M.half) :
  Calls Zg 87 #[.pointer (some ⟨b,0,none⟩),.int .i64 kind,.int .i64 size] w (D3n w B b M S kind size):=by
 obtain⟨hb,b0,b1⟩:=hs.base;have s1:=hs.h1;have s2:=hs.h2;have s3:=hs.t1;have s4:=hs.t2;have s7:=hs.o1;have s8:=hs.w;obtain⟨k0,k1⟩:=hk;obtain⟨z0,z1⟩:=hz;obtain⟨t,ht⟩:∃ t:Nat,M.top=t:=⟨M.top.toNat,by omega⟩;obtain⟨at_,hat⟩:∃ a:Nat,a=M.base+t:=⟨_,rfl⟩;have hlen:at_<M.W.length:=by omega
 obtain⟨g,hg,hgB,hgl,hgf,hgc,cur,hgh,-,-⟩:=Q3 hO.fW (by omega);have hM:=hO.mem hok;have c3:=hM.W;have c5:=hM.top;simp only[Nat.zero_add] at c3 c5;rw[hg] at c3;rw[ht] at c5;have hgb:g≠b:=fun e=>(hO.fld ⟨3,78,1,S.W.1,M.W.length,S.W.2,C5 M.W⟩ (by simp[F3])).2.2 (by simp[I6.val,hg,Value.ownBlock,e])
 have hcell:w.cell? ⟨g,at_,none⟩=some (.int .u64 (M.W.getD at_ 0)):=by
  have:=hM.rW;rw[hg] at this;simpa using this.at_ (K2 M.W at_ hlen)
 have hfb:=hO.frozen 5;have hfg:=hgf at_;have hlb:=OM.lt hO;have e1:IntKind.i64.wrap ((M.base:Int)+(t:Int))=(at_:Int):=by rw[Zc _ (by omega)];omega
 have e2:IntKind.i64.wrap (1+size)=1+size:=Zc _ (by omega);have e3:IntKind.i64.wrap ((t:Int)+(1+size))=(t:Int)+1+size:=by rw[Zc _ (by omega)];omega
 have HS:=Hz hs;have HM:=Hz hM;have HO:=Hz hO;have HG:=Hz hg;have HT:=Hz ht;have HAT:=Hz hat
 have E1:=Hz e1;clear hs hM hO hg ht hat hb hgh hgf s8 e1
 go_enter Tryz.func87,Tryz.ntmps87
 go_wp2;refine wp_region_held_drew (S:=fun W=>W.cell? ⟨b,5,none⟩=some (.int .i64 (t:Int))) (by kernel_rfl) ?_ (fun hH=>?_)
 ·exact c5
 refine tJ 0 8 rfl ?_
 try simp only[A5]
 refine tJ 2 10 rfl ?_
 try simp only[A5]
 refine tJ 3 11 rfl ?_
 try simp only[A5]
 refine tJ 4 12 rfl ?_
 try simp only[A5]
 refine tJ 5 13 rfl ?_
 try simp only[A5]
 refine wpAnyH_ready (rs:=[1]) (by kernel_rfl) (by simp) ?_;refine AllReadyH.cons (o:=⟨some 9,_,_,_,_,_⟩) rfl (fun K hK=>?_) AllReadyH.nil;go_simp;refine (B3g _ b 0 M S (HM.out.ext eX) HS.out).mono ?_;rintro e w' ⟨rfl,n,rfl⟩;refine hK.out _ _ ?_ (fun hH=>?_)
 ·(try dsimp only);exact c5
 clear hK K
 try simp only[A5]
 refine tk 6 ⟨some 14,_,_,_,_,_⟩ (.int .i64 (at_:Int)) rfl ?_ ?_
 ·(intro w hSw;go_simp;rw[E1.out])
 try simp only[A5]
 refine tJ 7 7 rfl ?_
 try simp only[A5]
 refine wpAnyH_done (by kernel_rfl) ?_ _;go_wp2;refine P4 (fun W1 hW1=>?_);have hE1:A0 w W1:=by rw[hW1];repeat (first|exact A0.refl _|(refine A0.drew_ ?_)|(refine A0.drewN_ ?_ _))
 have HE1:=Hz hE1;have d3:=hE1.cell_ c3;clear hW1 hE1 hH;refine wp_region_held_drew (S:=fun W=>W.cell? ⟨b,3,none⟩=some (.slice (some ⟨g,0,none⟩) M.W.length S.W.2)) (by kernel_rfl) ?_ (fun hH=>?_)
 ·exact d3
 refine tJ 0 15 rfl ?_
 try simp only[A5]
 refine tJ 1 16 rfl ?_
 try simp only[A5]
 refine tJ 2 17 rfl ?_
 try simp only[A5]
 refine tJ 3 18 rfl ?_
 try simp only[A5]
 refine tJ 4 19 rfl ?_
 try simp only[A5]
 refine tJ 5 20 rfl ?_
 try simp only[A5]
 refine tJ 6 21 rfl ?_
 try simp only[A5]
 refine tJ 7 22 rfl ?_
 try simp only[A5]
 refine wpAnyH_ready (rs:=[8]) (by kernel_rfl) (by simp) ?_;refine AllReadyH.cons (o:=⟨some 23,_,_,_,_,_⟩) rfl (fun K hK=>?_) AllReadyH.nil;go_simp;refine (B1u kind 0 0 size ⟨k0,k1⟩ (by omega) (by omega) ⟨z0,z1⟩ _).mono ?_;rintro e w2 ⟨rfl,hq⟩;have HE2:Hid (A0 w w2):=A0.trans_ (by first|exact HE1.out|exact HE1.out.drew_|exact HE1.out.drewN_ _) hq;clear hq;have g3:=HE2.out.cell_ c3;have gc:=HE2.out.cell_ hcell;have gf:w2.frozen? ⟨g,at_,none⟩=false:=by rw[HE2.out.three.2.1 _ _ hgl];exact hfg
 refine hK.out _ _ ?_ (fun hH=>?_)
 ·(try dsimp only);exact g3
 clear hK K
 try simp only[A5]
 refine tJ 9 24 rfl ?_
 try simp only[A5]
 refine wpAnyH_ready (rs:=[10]) (by kernel_rfl) (by simp) ?_;refine AllReadyH.cons (o:=⟨none,_,_,_,_,_⟩) rfl (fun K hK=>?_) AllReadyH.nil;go_simp;skip;refine hK.out _ _ ?_ (fun hH=>?_)
 ·(try dsimp only);rw[World.cell?_setCell_far _ _ _ _ (by simp;omega)];exact g3
 clear hK K
 try simp only[A5]
 refine wpAnyH_done (by kernel_rfl) ?_ _;clear hH;generalize hW4:w2.setCell ⟨g,at_,none⟩ (Value.int .u64 (J7 kind 0 0 size))=W4;have hO4:B7 W4 B b 140 {M with W:=M.W.set at_ (J7 kind 0 0 size)} S:=by
  rw[←hW4];exact B7.setW (OM.ext HO.out HE2.out) HG.out at_ hlen _
 have hK4:A8 (A5u b S) w W4:=by
  rw[←hW4];exact (A8.of_ext HE2.out).set_ (Or.inl (Or.inr (Or.inl HG.out))) _
 have n5:W4.cell? ⟨b,5,none⟩=some (.int .i64 (t:Int)):=by
  have:=hO4.num (5,M.top) (by simp[L5]);rw[HT.out] at this;exact this
 have f5:=hO4.frozen 5;have l5:=OM.lt hO4;have HO4:=Hz hO4;have HK4:=Hz hK4;clear hO4 hK4 g3 gc gf hW4;go_wp2;go_ret;have hfin:=B7.setTop HO4.out ((t:Int)+1+size);have hT:=HT.out;have hA:M.base+M.top.toNat=at_:=by rw[HAT.out,hT];rfl
 refine⟨by rw[hA];rfl,?_,HK4.out.set_ (Or.inl (Or.inl rfl)) _⟩;unfold B3w;rw[hA,hT];exact hfin
theorem B4k {P:Program} {c:Code} {Q:Exit→Act→World→Prop} {a:Act} {W:World} (h:∀ W9,W9=W→Code.wp P c Q a W9):Code.wp P c Q a W:=h W rfl
theorem D6v (b o:Nat) (M:A7) (S:C8) (gb gs gp:Addr) (w:World) (hM:G8 w b o M S) (hG:A1o w gb) (hS:A0d w gs) (hP:B0c w gp) (hs:P1 M=true) (h1:M9 M (L3 M)=true) (h2:J6 (C6 M) M.roots=false) :
  Calls Zg 90 #[.pointer (some ⟨b,o,none⟩)] w fun e w'=>e=.returned (E0 gs)∧A0 w w':=by
 have hh:=A9r hs;have hmm:=@run_makeMap Zg;have HM:=Hz hM;have HG:=Hz hG;have HH:=Hz hh;have HS:=Hz hS;have HP:=Hz hP;have H1:=Hz h1;have HR:=Hz h2;clear h2;have hltb:=hM.lt;have hltg:=B9 hS;have hltp:=B9 hP;simp only at hltg hltp;clear hM hG hh hP
 go_enter Tryz.func90,Tryz.ntmps90
 go_wp2_with (first
  | (go_at_call 134;refine (B2m _ b o M S ?_).mono ?_;(exact HM.out.ext ((A0.refl w).alloc_ _));rintro e w' ⟨rfl,n,rfl⟩;rw[hs]))
 refine (B4n w b o M S HH.out HM.out gb gs HG.out hS (w.heap.size+1) (w.heap.size+1+1) w.heap.size _ ?_ (by omega) (by omega) (by omega) ?_ ?_ ?_).mono ?_
 ·repeat (first|exact A0.refl _|(refine A0.set_ ?_ (by simp) _)|(refine A0.alloc_ ?_ _)|(refine A0.drewN_ ?_ _))
 ·exact N9.made_ (w:=(w.alloc _).drewN n) _ (by simp) (by repeat (first|exact A0.refl _|(refine A0.set_ ?_ (by simp) _)|(refine A0.alloc_ ?_ _)))
 ·simp[go_sem]
 ·simp[go_sem]
 rintro e w1 ⟨rfl,hsm,hK⟩;rw[h1];have hx:A0 w w1:=A0.keep (by repeat (first|exact A0.refl _|(refine A0.set_ ?_ (by simp) _)|(refine A0.alloc_ ?_ _)|(refine A0.drewN_ ?_ _))) hK (fun i hi=>by omega);have f1:w1.cell? ⟨w.heap.size,0,none⟩=some (.pointer (some ⟨b,o,none⟩)):=hK.cell (by simp) (by simp[go_sem]);have f3:w1.cell? ⟨w.heap.size+1+1,0,none⟩=some (.map (some (w.heap.size+1))):=hK.cell (by simp) (by simp[go_sem]);have z1:w.heap.size+1+1<w1.heap.size:=by have:=hK.size;simp at this;omega
 have HX1:=Hz hx;have HSM:=Hz (hsm h1);clear hsm hK hx hS h1;go_wp2;refine B4k (fun W9 hW9=>?_);have g5:W9.cell? ⟨w1.heap.size+1,0,none⟩=some (.func (.func 139) #[] #[.pointer (some ⟨w1.heap.size,0,none⟩)]):=by rw[hW9];simp[go_sem]
 have g4:W9.cell? ⟨w1.heap.size,0,none⟩=some (.func (.func 137) #[] #[.pointer (some ⟨w.heap.size+1+1,0,none⟩)]):=by rw[hW9];simp[go_sem]
 have g6:W9.cell? ⟨w1.heap.size+1+1,0,none⟩=some (.bool true):=by rw[hW9];simp[go_sem]
 have u6:W9.frozen? ⟨w1.heap.size+1+1,0,none⟩=false:=by rw[hW9];simp[go_sem]
 have hx9:A0 w1 W9:=by rw[hW9];repeat (first|exact A0.refl _|(refine A0.alloc_ ?_ _))
 have g1:=hx9.cell_ f1;have g3:=hx9.cell_ f3;have hsm9:=HSM.out.ext hx9;have hxx:A0 w W9:=A0.trans_ HX1.out hx9;have hM9:=HM.out.ext hxx;have gr:=hM9.roots;have gk:=hM9.weak;have z9:w1.heap.size+1+1<W9.heap.size:=B9 g6;have G3:=Hz g3;have G4:=Hz g4;have G6:=Hz g6;have U6:=Hz u6;have SM9:=Hz hsm9;have HX9:=Hz hxx;clear hW9 hx9 f1 f3 g3 g4 g6 u6 hsm9 hxx hM9 HSM;refine wp_region_held_drew (S:=fun W=>W.cell? ⟨w1.heap.size+1,0,none⟩=some (.func (.func 139) #[] #[.pointer (some ⟨w1.heap.size,0,none⟩)])∧W.cell? ⟨w.heap.size,0,none⟩=some (.pointer (some ⟨b,o,none⟩))∧W.cell? ⟨b,o+7,none⟩=some (.slice S.R.1 M.roots.length S.R.2)∧W.cell? ⟨b,o+8,none⟩=some (.slice S.K.1 M.weak.length S.K.2)) (by kernel_rfl) ?_ (fun hH=>?_)
 ·exact⟨g5,g1,gr,gk⟩
 refine tJ 0 27 rfl ?_
 try simp only[A5]
 refine tJ 1 28 rfl ?_
 try simp only[A5]
 refine tJ 2 29 rfl ?_
 try simp only[A5]
 refine tJ 3 30 rfl ?_
 try simp only[A5]
 refine tJ 4 31 rfl ?_
 try simp only[A5]
 refine wpAnyH_ready (rs:=[5]) (by kernel_rfl) (by simp) ?_;refine AllReadyH.cons (o:=⟨some 32,_,_,_,_,_⟩) rfl (fun K hK=>?_) AllReadyH.nil;go_simp;refine (A8y S.R.1 S.R.2 M.roots ?_ ?_ (w.heap.size+1) (w.heap.size+1+1) w1.heap.size (C6 M) _ ?_ ?_ ?_ ?_).mono ?_
 ·exact HM.out.ok.lenR
 ·exact HM.out.ok.roots
 ·exact (HM.out.ext (A0.trans_ HX9.out eX)).rR
 ·exact SM9.out.ext eX
 ·exact A0.cell_ eX G3.out
 ·exact A0.cell_ eX G4.out
 rintro e w2 ⟨he,hq⟩;rw[HR.out] at he;subst he;have HE2:Hid (A0 W9 w2):=A0.trans_ eX hq;have d2:=hq.cell_ hH.1;have d2a:=hq.cell_ hH.2.1;have d2b:=hq.cell_ hH.2.2.1;have d2c:=hq.cell_ hH.2.2.2;clear hq;refine hK.out _ _ ?_ (fun hH=>?_)
 ·(try dsimp only);exact⟨d2,d2a,d2b,d2c⟩
 clear hK K
 try simp only[A5]
 refine tJ 6 33 rfl ?_
 try simp only[A5]
 refine tJ 7 34 rfl ?_
 try simp only[A5]
 refine tn 8 ⟨some 35,_,_,_,_,_⟩ rfl ?_
 try simp only[A5]
 refine tn 9 ⟨some 36,_,_,_,_,_⟩ rfl ?_
 try simp only[A5]
 refine tn 10 ⟨some 37,_,_,_,_,_⟩ rfl ?_
 try simp only[A5]
 refine tn 11 ⟨some 38,_,_,_,_,_⟩ rfl ?_
 try simp only[A5]
 refine tn 12 ⟨some 39,_,_,_,_,_⟩ rfl ?_
 try simp only[A5]
 refine tn 13 ⟨some 40,_,_,_,_,_⟩ rfl ?_
 try simp only[A5]
 refine tn 14 ⟨some 41,_,_,_,_,_⟩ rfl ?_
 try simp only[A5]
 refine tJ 15 42 rfl ?_
 try simp only[A5]
 refine tJ 16 43 rfl ?_
 try simp only[A5]
 refine tn 17 ⟨some 44,_,_,_,_,_⟩ rfl ?_
 try simp only[A5]
 refine tn 18 ⟨some 45,_,_,_,_,_⟩ rfl ?_
 try simp only[A5]
 refine tn 19 ⟨some 46,_,_,_,_,_⟩ rfl ?_
 try simp only[A5]
 refine tn 20 ⟨some 47,_,_,_,_,_⟩ rfl ?_
 try simp only[A5]
 refine tJ 21 48 rfl ?_
 try simp only[A5]
 refine wpAnyH_done (by kernel_rfl) ?_ _;have hx:A0 w w2:=A0.trans_ HX9.out HE2.out;have hS1:A0d w2 gs:=hx.cell_ HS.out;go_wp2;go_ret;exact⟨rfl,hx⟩
theorem D6w (b o:Nat) (M:A7) (S:C8) (gb gs gp:Addr) (w:World) (hM:G8 w b o M S) (hG:A1o w gb) (hS:A0d w gs) (hP:B0c w gp) (hs:P1 M=true) (h1:M9 M (L3 M)=true) (h2:J6 (C6 M) M.roots=true) (h3:J6 (C6 M) M.weak=false) :
  Calls Zg 90 #[.pointer (some ⟨b,o,none⟩)] w fun e w'=>e=.returned (E0 gs)∧A0 w w':=by
 have hh:=A9r hs;have hmm:=@run_makeMap Zg;have HM:=Hz hM;have HG:=Hz hG;have HH:=Hz hh;have HS:=Hz hS;have HP:=Hz hP;have H1:=Hz h1;have HR:=Hz h2;have HW:=Hz h3;clear h2 h3;have hltb:=hM.lt;have hltg:=B9 hS;have hltp:=B9 hP;simp only at hltg hltp;clear hM hG hh hP
 go_enter Tryz.func90,Tryz.ntmps90
 go_wp2_with (first
  | (go_at_call 134;refine (B2m _ b o M S ?_).mono ?_;(exact HM.out.ext ((A0.refl w).alloc_ _));rintro e w' ⟨rfl,n,rfl⟩;rw[hs]))
 refine (B4n w b o M S HH.out HM.out gb gs HG.out hS (w.heap.size+1) (w.heap.size+1+1) w.heap.size _ ?_ (by omega) (by omega) (by omega) ?_ ?_ ?_).mono ?_
 ·repeat (first|exact A0.refl _|(refine A0.set_ ?_ (by simp) _)|(refine A0.alloc_ ?_ _)|(refine A0.drewN_ ?_ _))
 ·exact N9.made_ (w:=(w.alloc _).drewN n) _ (by simp) (by repeat (first|exact A0.refl _|(refine A0.set_ ?_ (by simp) _)|(refine A0.alloc_ ?_ _)))
 ·simp[go_sem]
 ·simp[go_sem]
 rintro e w1 ⟨rfl,hsm,hK⟩;rw[h1];have hx:A0 w w1:=A0.keep (by repeat (first|exact A0.refl _|(refine A0.set_ ?_ (by simp) _)|(refine A0.alloc_ ?_ _)|(refine A0.drewN_ ?_ _))) hK (fun i hi=>by omega);have f1:w1.cell? ⟨w.heap.size,0,none⟩=some (.pointer (some ⟨b,o,none⟩)):=hK.cell (by simp) (by simp[go_sem]);have f3:w1.cell? ⟨w.heap.size+1+1,0,none⟩=some (.map (some (w.heap.size+1))):=hK.cell (by simp) (by simp[go_sem]);have z1:w.heap.size+1+1<w1.heap.size:=by have:=hK.size;simp at this;omega
 have HX1:=Hz hx;have HSM:=Hz (hsm h1);clear hsm hK hx hS h1;go_wp2;refine B4k (fun W9 hW9=>?_);have g5:W9.cell? ⟨w1.heap.size+1,0,none⟩=some (.func (.func 139) #[] #[.pointer (some ⟨w1.heap.size,0,none⟩)]):=by rw[hW9];simp[go_sem]
 have g4:W9.cell? ⟨w1.heap.size,0,none⟩=some (.func (.func 137) #[] #[.pointer (some ⟨w.heap.size+1+1,0,none⟩)]):=by rw[hW9];simp[go_sem]
 have g6:W9.cell? ⟨w1.heap.size+1+1,0,none⟩=some (.bool true):=by rw[hW9];simp[go_sem]
 have u6:W9.frozen? ⟨w1.heap.size+1+1,0,none⟩=false:=by rw[hW9];simp[go_sem]
 have hx9:A0 w1 W9:=by rw[hW9];repeat (first|exact A0.refl _|(refine A0.alloc_ ?_ _))
 have g1:=hx9.cell_ f1;have g3:=hx9.cell_ f3;have hsm9:=HSM.out.ext hx9;have hxx:A0 w W9:=A0.trans_ HX1.out hx9;have hM9:=HM.out.ext hxx;have gr:=hM9.roots;have gk:=hM9.weak;have z9:w1.heap.size+1+1<W9.heap.size:=B9 g6;have G3:=Hz g3;have G4:=Hz g4;have G6:=Hz g6;have U6:=Hz u6;have SM9:=Hz hsm9;have HX9:=Hz hxx;clear hW9 hx9 f1 f3 g3 g4 g6 u6 hsm9 hxx hM9 HSM;refine wp_region_held_drew (S:=fun W=>W.cell? ⟨w1.heap.size+1,0,none⟩=some (.func (.func 139) #[] #[.pointer (some ⟨w1.heap.size,0,none⟩)])∧W.cell? ⟨w.heap.size,0,none⟩=some (.pointer (some ⟨b,o,none⟩))∧W.cell? ⟨b,o+7,none⟩=some (.slice S.R.1 M.roots.length S.R.2)∧W.cell? ⟨b,o+8,none⟩=some (.slice S.K.1 M.weak.length S.K.2)) (by kernel_rfl) ?_ (fun hH=>?_)
 ·exact⟨g5,g1,gr,gk⟩
 refine tJ 0 27 rfl ?_
 try simp only[A5]
 refine tJ 1 28 rfl ?_
 try simp only[A5]
 refine tJ 2 29 rfl ?_
 try simp only[A5]
 refine tJ 3 30 rfl ?_
 try simp only[A5]
 refine tJ 4 31 rfl ?_
 try simp only[A5]
 refine wpAnyH_ready (rs:=[5]) (by kernel_rfl) (by simp) ?_;refine AllReadyH.cons (o:=⟨some 32,_,_,_,_,_⟩) rfl (fun K hK=>?_) AllReadyH.nil;go_simp;refine (A8y S.R.1 S.R.2 M.roots ?_ ?_ (w.heap.size+1) (w.heap.size+1+1) w1.heap.size (C6 M) _ ?_ ?_ ?_ ?_).mono ?_
 ·exact HM.out.ok.lenR
 ·exact HM.out.ok.roots
 ·exact (HM.out.ext (A0.trans_ HX9.out eX)).rR
 ·exact SM9.out.ext eX
 ·exact A0.cell_ eX G3.out
 ·exact A0.cell_ eX G4.out
 rintro e w2 ⟨he,hq⟩;rw[HR.out] at he;subst he;have HE2:Hid (A0 W9 w2):=A0.trans_ eX hq;have d2:=hq.cell_ hH.1;have d2a:=hq.cell_ hH.2.1;have d2b:=hq.cell_ hH.2.2.1;have d2c:=hq.cell_ hH.2.2.2;clear hq;refine hK.out _ _ ?_ (fun hH=>?_)
 ·(try dsimp only);exact⟨d2,d2a,d2b,d2c⟩
 clear hK K
 try simp only[A5]
 refine tJ 6 33 rfl ?_
 try simp only[A5]
 refine tJ 7 34 rfl ?_
 try simp only[A5]
 refine tJ 8 35 rfl ?_
 try simp only[A5]
 refine tJ 9 36 rfl ?_
 try simp only[A5]
 refine tJ 10 37 rfl ?_
 try simp only[A5]
 refine tJ 11 38 rfl ?_
 try simp only[A5]
 refine tJ 12 39 rfl ?_
 try simp only[A5]
 refine wpAnyH_ready (rs:=[13]) (by kernel_rfl) (by simp) ?_;refine AllReadyH.cons (o:=⟨some 40,_,_,_,_,_⟩) rfl (fun K hK=>?_) AllReadyH.nil;go_simp;refine (A8y S.K.1 S.K.2 M.weak ?_ ?_ (w.heap.size+1) (w.heap.size+1+1) w1.heap.size (C6 M) _ ?_ ?_ ?_ ?_).mono ?_
 ·exact HM.out.ok.lenK
 ·exact HM.out.ok.weak
 ·exact (HM.out.ext (A0.trans_ HX9.out (by exact HE2.out))).rK
 ·exact SM9.out.ext (by exact HE2.out)
 ·exact A0.cell_ (by exact HE2.out) G3.out
 ·exact A0.cell_ (by exact HE2.out) G4.out
 rintro e w3 ⟨he,hq⟩;rw[HW.out] at he;subst he;have HE3:Hid (A0 W9 w3):=A0.trans_ (by exact HE2.out) hq;have d3:=hq.cell_ hH.1;have d3a:=hq.cell_ hH.2.1;have d3b:=hq.cell_ hH.2.2.1;have d3c:=hq.cell_ hH.2.2.2;clear hq;refine hK.out _ _ ?_ (fun hH=>?_)
 ·(try dsimp only);exact⟨d3,d3a,d3b,d3c⟩
 clear hK K
 try simp only[A5]
 refine tJ 14 41 rfl ?_
 try simp only[A5]
 refine tJ 15 42 rfl ?_
 try simp only[A5]
 refine tJ 16 43 rfl ?_
 try simp only[A5]
 refine tn 17 ⟨some 44,_,_,_,_,_⟩ rfl ?_
 try simp only[A5]
 refine tn 18 ⟨some 45,_,_,_,_,_⟩ rfl ?_
 try simp only[A5]
 refine tn 19 ⟨some 46,_,_,_,_,_⟩ rfl ?_
 try simp only[A5]
 refine tn 20 ⟨some 47,_,_,_,_,_⟩ rfl ?_
 try simp only[A5]
 refine tJ 21 48 rfl ?_
 try simp only[A5]
 refine wpAnyH_done (by kernel_rfl) ?_ _;have hx:A0 w w3:=A0.trans_ HX9.out HE3.out;have hS1:A0d w3 gs:=hx.cell_ HS.out;go_wp2;go_ret;exact⟨rfl,hx⟩
theorem D6x (b o:Nat) (M:A7) (S:C8) (gb gs gp:Addr) (w:World) (hM:G8 w b o M S) (hG:A1o w gb) (hS:A0d w gs) (hP:B0c w gp) (hs:P1 M=true) (h1:M9 M (L3 M)=true) (h2:J6 (C6 M) M.roots=true) (h3:J6 (C6 M) M.weak=true) (h4:M9 M (R2 M (C6 M))=false) :
  Calls Zg 90 #[.pointer (some ⟨b,o,none⟩)] w fun e w'=>e=.returned (E0 gs)∧A0 w w':=by
 have hh:=A9r hs;have hmm:=@run_makeMap Zg;have HM:=Hz hM;have HG:=Hz hG;have HH:=Hz hh;have HS:=Hz hS;have HP:=Hz hP;have H1:=Hz h1;have HR:=Hz h2;have HW:=Hz h3;have HO:=Hz h4;clear h2 h3 h4;have hltb:=hM.lt;have hltg:=B9 hS;have hltp:=B9 hP;simp only at hltg hltp;clear hM hG hh hP
 go_enter Tryz.func90,Tryz.ntmps90
 go_wp2_with (first
  | (go_at_call 134;refine (B2m _ b o M S ?_).mono ?_;(exact HM.out.ext ((A0.refl w).alloc_ _));rintro e w' ⟨rfl,n,rfl⟩;rw[hs]))
 refine (B4n w b o M S HH.out HM.out gb gs HG.out hS (w.heap.size+1) (w.heap.size+1+1) w.heap.size _ ?_ (by omega) (by omega) (by omega) ?_ ?_ ?_).mono ?_
 ·repeat (first|exact A0.refl _|(refine A0.set_ ?_ (by simp) _)|(refine A0.alloc_ ?_ _)|(refine A0.drewN_ ?_ _))
 ·exact N9.made_ (w:=(w.alloc _).drewN n) _ (by simp) (by repeat (first|exact A0.refl _|(refine A0.set_ ?_ (by simp) _)|(refine A0.alloc_ ?_ _)))
 ·simp[go_sem]
 ·simp[go_sem]
 rintro e w1 ⟨rfl,hsm,hK⟩;rw[h1];have hx:A0 w w1:=A0.keep (by repeat (first|exact A0.refl _|(refine A0.set_ ?_ (by simp) _)|(refine A0.alloc_ ?_ _)|(refine A0.drewN_ ?_ _))) hK (fun i hi=>by omega);have f1:w1.cell? ⟨w.heap.size,0,none⟩=some (.pointer (some ⟨b,o,none⟩)):=hK.cell (by simp) (by simp[go_sem]);have f3:w1.cell? ⟨w.heap.size+1+1,0,none⟩=some (.map (some (w.heap.size+1))):=hK.cell (by simp) (by simp[go_sem]);have z1:w.heap.size+1+1<w1.heap.size:=by have:=hK.size;simp at this;omega
 have HX1:=Hz hx;have HSM:=Hz (hsm h1);clear hsm hK hx hS h1;go_wp2;refine B4k (fun W9 hW9=>?_);have g5:W9.cell? ⟨w1.heap.size+1,0,none⟩=some (.func (.func 139) #[] #[.pointer (some ⟨w1.heap.size,0,none⟩)]):=by rw[hW9];simp[go_sem]
 have g4:W9.cell? ⟨w1.heap.size,0,none⟩=some (.func (.func 137) #[] #[.pointer (some ⟨w.heap.size+1+1,0,none⟩)]):=by rw[hW9];simp[go_sem]
 have g6:W9.cell? ⟨w1.heap.size+1+1,0,none⟩=some (.bool true):=by rw[hW9];simp[go_sem]
 have u6:W9.frozen? ⟨w1.heap.size+1+1,0,none⟩=false:=by rw[hW9];simp[go_sem]
 have hx9:A0 w1 W9:=by rw[hW9];repeat (first|exact A0.refl _|(refine A0.alloc_ ?_ _))
 have g1:=hx9.cell_ f1;have g3:=hx9.cell_ f3;have hsm9:=HSM.out.ext hx9;have hxx:A0 w W9:=A0.trans_ HX1.out hx9;have hM9:=HM.out.ext hxx;have gr:=hM9.roots;have gk:=hM9.weak;have z9:w1.heap.size+1+1<W9.heap.size:=B9 g6;have G3:=Hz g3;have G4:=Hz g4;have G6:=Hz g6;have U6:=Hz u6;have SM9:=Hz hsm9;have HX9:=Hz hxx;clear hW9 hx9 f1 f3 g3 g4 g6 u6 hsm9 hxx hM9 HSM;refine wp_region_held_drew (S:=fun W=>W.cell? ⟨w1.heap.size+1,0,none⟩=some (.func (.func 139) #[] #[.pointer (some ⟨w1.heap.size,0,none⟩)])∧W.cell? ⟨w.heap.size,0,none⟩=some (.pointer (some ⟨b,o,none⟩))∧W.cell? ⟨b,o+7,none⟩=some (.slice S.R.1 M.roots.length S.R.2)∧W.cell? ⟨b,o+8,none⟩=some (.slice S.K.1 M.weak.length S.K.2)) (by kernel_rfl) ?_ (fun hH=>?_)
 ·exact⟨g5,g1,gr,gk⟩
 refine tJ 0 27 rfl ?_
 try simp only[A5]
 refine tJ 1 28 rfl ?_
 try simp only[A5]
 refine tJ 2 29 rfl ?_
 try simp only[A5]
 refine tJ 3 30 rfl ?_
 try simp only[A5]
 refine tJ 4 31 rfl ?_
 try simp only[A5]
 refine wpAnyH_ready (rs:=[5]) (by kernel_rfl) (by simp) ?_;refine AllReadyH.cons (o:=⟨some 32,_,_,_,_,_⟩) rfl (fun K hK=>?_) AllReadyH.nil;go_simp;refine (A8y S.R.1 S.R.2 M.roots ?_ ?_ (w.heap.size+1) (w.heap.size+1+1) w1.heap.size (C6 M) _ ?_ ?_ ?_ ?_).mono ?_
 ·exact HM.out.ok.lenR
 ·exact HM.out.ok.roots
 ·exact (HM.out.ext (A0.trans_ HX9.out eX)).rR
 ·exact SM9.out.ext eX
 ·exact A0.cell_ eX G3.out
 ·exact A0.cell_ eX G4.out
 rintro e w2 ⟨he,hq⟩;rw[HR.out] at he;subst he;have HE2:Hid (A0 W9 w2):=A0.trans_ eX hq;have d2:=hq.cell_ hH.1;have d2a:=hq.cell_ hH.2.1;have d2b:=hq.cell_ hH.2.2.1;have d2c:=hq.cell_ hH.2.2.2;clear hq;refine hK.out _ _ ?_ (fun hH=>?_)
 ·(try dsimp only);exact⟨d2,d2a,d2b,d2c⟩
 clear hK K
 try simp only[A5]
 refine tJ 6 33 rfl ?_
 try simp only[A5]
 refine tJ 7 34 rfl ?_
 try simp only[A5]
 refine tJ 8 35 rfl ?_
 try simp only[A5]
 refine tJ 9 36 rfl ?_
 try simp only[A5]
 refine tJ 10 37 rfl ?_
 try simp only[A5]
 refine tJ 11 38 rfl ?_
 try simp only[A5]
 refine tJ 12 39 rfl ?_
 try simp only[A5]
 refine wpAnyH_ready (rs:=[13]) (by kernel_rfl) (by simp) ?_;refine AllReadyH.cons (o:=⟨some 40,_,_,_,_,_⟩) rfl (fun K hK=>?_) AllReadyH.nil;go_simp;refine (A8y S.K.1 S.K.2 M.weak ?_ ?_ (w.heap.size+1) (w.heap.size+1+1) w1.heap.size (C6 M) _ ?_ ?_ ?_ ?_).mono ?_
 ·exact HM.out.ok.lenK
 ·exact HM.out.ok.weak
 ·exact (HM.out.ext (A0.trans_ HX9.out (by exact HE2.out))).rK
 ·exact SM9.out.ext (by exact HE2.out)
 ·exact A0.cell_ (by exact HE2.out) G3.out
 ·exact A0.cell_ (by exact HE2.out) G4.out
 rintro e w3 ⟨he,hq⟩;rw[HW.out] at he;subst he;have HE3:Hid (A0 W9 w3):=A0.trans_ (by exact HE2.out) hq;have d3:=hq.cell_ hH.1;have d3a:=hq.cell_ hH.2.1;have d3b:=hq.cell_ hH.2.2.1;have d3c:=hq.cell_ hH.2.2.2;clear hq;refine hK.out _ _ ?_ (fun hH=>?_)
 ·(try dsimp only);exact⟨d3,d3a,d3b,d3c⟩
 clear hK K
 try simp only[A5]
 refine tJ 14 41 rfl ?_
 try simp only[A5]
 refine tJ 15 42 rfl ?_
 try simp only[A5]
 refine tJ 16 43 rfl ?_
 try simp only[A5]
 refine tJ 17 44 rfl ?_
 try simp only[A5]
 refine tJ 18 45 rfl ?_
 try simp only[A5]
 refine wpAnyH_ready (rs:=[19]) (by kernel_rfl) (by simp) ?_;refine AllReadyH.cons (o:=⟨some 46,_,_,_,_,_⟩) rfl (fun K hK=>?_) AllReadyH.nil;go_simp;refine (C9p w b o M S HH.out HM.out gb gs HG.out HS.out w.heap.size (w.heap.size+1+1) w1.heap.size (w1.heap.size+1) (w1.heap.size+1+1) (w.heap.size+1) (C6 M) _ ?_ (by omega) (by omega) (by omega) (by omega) (by omega) (by omega) ?_ ?_ ?_ ?_ ?_ ?_ ?_).mono ?_
 ·exact A0.trans_ HX9.out HE3.out
 ·exact SM9.out.ext HE3.out
 ·exact hH.2.1
 ·exact HE3.out.cell_ G3.out
 ·exact HE3.out.cell_ G4.out
 ·exact hH.1
 ·exact HE3.out.cell_ G6.out
 ·rw[HE3.out.three.2.1 _ _ z9];exact U6.out
 rintro e w4 ⟨he,hc6,hK⟩;rw[HO.out] at he;subst he;have HE4:Hid (A0 w w4):=A0.keep (A0.trans_ HX9.out HE3.out) hK (fun i hi=>by omega);have d4:=hK.cell (by simp) hH.1;have d4a:=hK.cell (by simp;omega) hH.2.1;have d4b:=hK.cell (by simp;omega) hH.2.2.1;have d4c:=hK.cell (by simp;omega) hH.2.2.2;have HC6:=Hz hc6;have HK4:=Hz hK;clear hc6 hK;refine hK.out _ _ ?_ (fun hH=>?_)
 ·(try dsimp only);exact⟨d4,d4a,d4b,d4c⟩
 clear hK K
 try simp only[A5]
 refine tJ 20 47 rfl ?_
 try simp only[A5]
 refine tJ 21 48 rfl ?_
 try simp only[A5]
 refine wpAnyH_done (by kernel_rfl) ?_ _;have hx:A0 w w4:=HE4.out;have hS1:A0d w4 gs:=hx.cell_ HS.out;go_wp2;go_ret;exact⟨rfl,hx⟩
end Go.Proofs.YtelhoppfidibiaaGreatDoor
