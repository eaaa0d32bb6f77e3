/- What the major Collect answers where it does nothing. -/
import Derived.Test.YtelhoppfidibiaaGreatDoorJTa24
import Derived.Deep.Cut
import Derived.Deep.RegionHeld3
set_option linter.unusedSimpArgs false
set_option linter.unusedVariables false
set_option maxHeartbeats 4000000
set_option maxRecDepth 100000
namespace Go.Proofs.YtelhoppfidibiaaGreatDoor
open Go.RowKit
theorem major_full (b:Nat) (M:Mem) (S:Sls) (E:Nat→Addr) (w:World) (hM:RMem w b 0 M S) (hE:G4 E w) (h:chk M=0) (hfu:M.old<(liveM M:Int)) :
  Calls Tryz.prog 46 #[.pointer (some ⟨b,0,none⟩)] w (CNo w E 6):=by
 have HC:Hid (errC E (chk M)=.nilIface):=by rw[Hid,h];rfl
 have HG:=Lib.hid (chk_zero h).1
 have HM:=Lib.hid hM
 have HE:=Lib.hid hE
 have hbz:=hM.lt
 clear hM hE h
 go_enter Tryz.func46,Tryz.ntmps46
 go_upto_region 5 with (first
  | (go_at_call 90;refine (check_c b 0 M S E _ (HM.out.ext (by repeat (first|exact Ext.refl _|(refine Ext.drew_ ?_)|(refine Ext.alloc_ ?_ _)))) (HE.out.ext (by repeat (first|exact Ext.refl _|(refine Ext.drew_ ?_)|(refine Ext.alloc_ ?_ _)))).toG3).mono ?_;rintro e w1 ⟨he,hq⟩;rw[HC.out] at he;subst he;have HX1:Hid (Ext w w1):=Ext.trans_ (by repeat (first|exact Ext.refl _|(refine Ext.drew_ ?_)|(refine Ext.alloc_ ?_ _))) hq;have hxb:=hq.cell_ (p:=⟨w.heap.size,0,none⟩) (v:=.pointer (some ⟨b,0,none⟩)) (by simp[go_sem]);clear hq)
  | (go_at_call 53;refine (mReach_walk b 0 M S _ (HM.out.ext HX1.out) HG.out).mono ?_;rintro e w2 ⟨ta,tc,mb,rfl,hT,hMp,hB,hno,hq⟩;have HX2:Hid (Ext w w2):=Ext.trans_ HX1.out hq;have hxb2:=hq.cell_ hxb;clear hq hT hMp hB hno))
 generalize hxbq:w.heap.size=xb at *
 have HXBQ:=Lib.hid hxbq
 clear hxbq
 refine named_world' (fun W3 hW3=>?_)
 have hX3:Ext w2 W3:=by rw[hW3];exact (Ext.refl _).alloc_ _
 have HX3:Hid (Ext w W3):=HX2.out.trans_ hX3
 have x3:=hX3.cell_ hxb2
 have o3:=(HM.out.ext HX3.out).old
 simp only[Nat.zero_add] at o3
 clear hW3 hX3 hxb hxb2
 refine wp_region_held_drew (S:=fun W=>W.cell? ⟨xb,0,none⟩=some (.pointer (some ⟨b,0,none⟩))∧W.cell? ⟨b,1,none⟩=some (.int .i64 M.old)) (by kernel_rfl) ?_ (fun hHeld=>?_)
 ·exact⟨x3,o3⟩
 refine tk 0 ⟨some 39,_,_,_,_,_⟩ ?_ rfl ?_ ?_
 rotate_left
 ·(intro w hSw;(try dsimp only at hSw);go_simp;try with_reducible rfl)
 try simp only[tkS]
 refine tk 2 ⟨some 41,_,_,_,_,_⟩ ?_ rfl ?_ ?_
 rotate_left
 ·(intro w hSw;(try dsimp only at hSw);go_simp;try with_reducible rfl)
 try simp only[tkS]
 refine tk 3 ⟨some 42,_,_,_,_,_⟩ ?_ rfl ?_ ?_
 rotate_left
 ·(intro w hSw;(try dsimp only at hSw);go_simp;try with_reducible rfl)
 try simp only[tkS]
 refine tk 4 ⟨some 43,_,_,_,_,_⟩ ?_ rfl ?_ ?_
 rotate_left
 ·(intro w hSw;(try dsimp only at hSw);go_simp;try with_reducible rfl)
 try simp only[tkS]
 refine tk 5 ⟨some 44,_,_,_,_,_⟩ ?_ rfl ?_ ?_
 rotate_left
 ·(intro w hSw;(try dsimp only at hSw);go_simp;try with_reducible rfl)
 try simp only[tkS]
 refine wpAnyH_ready (rs:=[1]) (by kernel_rfl) (by simp) ?_
 refine AllReadyH.cons (o:=⟨some 40,_,_,_,_,_⟩) rfl (fun K hK=>?_) AllReadyH.nil
 go_simp
 refine (mReached_walk b 0 M S _ ((HM.out.ext HX3.out).ext (by repeat (first|exact Ext.refl _|(refine Ext.drew_ ?_)|(refine Ext.drewN_ ?_ _)))) HG.out).mono ?_
 rintro e w4 ⟨rfl,hq⟩
 have q1:=hq.cell_ hHeld.1
 have q2:=hq.cell_ hHeld.2
 have HE4:=Lib.hid hq
 clear hq
 refine hK.out _ _ ?_ (fun hHeld=>?_)
 ·(try dsimp only);exact⟨q1,q2⟩
 clear hK K
 try simp only[tkS]
 refine tk 6 ⟨some 45,_,_,_,_,_⟩ ?_ rfl ?_ ?_
 rotate_left
 ·(intro w hSw;(try dsimp only at hSw);go_simp;try with_reducible rfl)
 try simp only[tkS]
 refine wpAnyH_done (by kernel_rfl) ?_ _
 have HX4:Hid (Ext w w4):=HX3.out.trans_ (Ext.trans_ (by repeat (first|exact Ext.refl _|(refine Ext.drew_ ?_)|(refine Ext.drewN_ ?_ _))) HE4.out)
 have hfu2:M.old<(liveM M:Int):=hfu
 have g4:=(HE.out.ext HX4.out).full
 clear hHeld q1 q2 x3 o3
 go_wp2
 go_ret
 exact⟨rfl,HX4.out⟩
end Go.Proofs.YtelhoppfidibiaaGreatDoor
