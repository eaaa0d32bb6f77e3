/- What the major Collect answers where it does nothing. -/
import Derived.Test.YtelhoppfidibiaaGreatDoorJXa21
set_option linter.unusedSimpArgs false
set_option linter.unusedVariables false
set_option maxHeartbeats 4000000
set_option maxRecDepth 100000
namespace Go.Proofs.YtelhoppfidibiaaGreatDoor
open Go.RowKit
theorem E5p (b:Nat) (M:A7) (S:C8) (E:Nat→Addr) (w:World) (hM:G8 w b 0 M S) (hE:G4 E w) (h:chk M=0) (hfu:M.old<(O4 M:Int)) :
  Calls Tryz.prog 46 #[.pointer (some ⟨b,0,none⟩)] w (CNo w E 6):=by
 have HC:Hid (F1 E (chk M)=.nilIface):=by rw[Hid,h];rfl
 have HG:=Hz (L8 h).1;have HM:=Hz hM;have HE:=Hz hE;have hbz:=hM.lt;clear hM hE h
 go_enter Tryz.func46,Tryz.ntmps46
 go_upto_region 5 with (first
  | (go_at_call 90;refine (B5x b 0 M S E _ (HM.out.ext eX) (HE.out.ext eX).toG3).mono ?_;rintro e w1 ⟨he,hq⟩;rw[HC.out] at he;subst he;have HX1:Hid (A0 w w1):=A0.trans_ eX hq;have hxb:=hq.cell_ (p:=⟨w.heap.size,0,none⟩) (v:=.pointer (some ⟨b,0,none⟩)) (by simp[go_sem]);clear hq)
  | (go_at_call 53;refine (B7g b 0 M S _ (HM.out.ext HX1.out) HG.out).mono ?_;rintro e w2 ⟨ta,tc,mb,rfl,hT,hMp,hB,hno,hq⟩;have HX2:Hid (A0 w w2):=A0.trans_ HX1.out hq;have hxb2:=hq.cell_ hxb;clear hq hT hMp hB hno))
 generalize hxbq:w.heap.size=xb at *
 have HXBQ:=Hz hxbq;clear hxbq;refine P4 (fun W3 hW3=>?_);have hX3:A0 w2 W3:=by rw[hW3];exact (A0.refl _).alloc_ _
 have HX3:Hid (A0 w W3):=HX2.out.trans_ hX3;have x3:=hX3.cell_ hxb2;have o3:=(HM.out.ext HX3.out).old;simp only[Nat.zero_add] at o3;clear hW3 hX3 hxb hxb2;refine wp_region_held_drew (S:=fun W=>W.cell? ⟨xb,0,none⟩=some (.pointer (some ⟨b,0,none⟩))∧W.cell? ⟨b,1,none⟩=some (.int .i64 M.old)) (by kernel_rfl) ?_ (fun hH=>?_)
 ·exact⟨x3,o3⟩
 refine tJ 0 39 rfl ?_
 try simp only[A5]
 refine tJ 2 41 rfl ?_
 try simp only[A5]
 refine tJ 3 42 rfl ?_
 try simp only[A5]
 refine tJ 4 43 rfl ?_
 try simp only[A5]
 refine tJ 5 44 rfl ?_
 try simp only[A5]
 refine wpAnyH_ready (rs:=[1]) (by kernel_rfl) (by simp) ?_;refine AllReadyH.cons (o:=⟨some 40,_,_,_,_,_⟩) rfl (fun K hK=>?_) AllReadyH.nil;go_simp;refine (C8b b 0 M S _ ((HM.out.ext HX3.out).ext eX) HG.out).mono ?_;rintro e w4 ⟨rfl,hq⟩;have q1:=hq.cell_ hH.1;have q2:=hq.cell_ hH.2;have HE4:=Hz hq;clear hq;refine hK.out _ _ ?_ (fun hH=>?_)
 ·(try dsimp only);exact⟨q1,q2⟩
 clear hK K
 try simp only[A5]
 refine tJ 6 45 rfl ?_
 try simp only[A5]
 refine wpAnyH_done (by kernel_rfl) ?_ _;have HX4:Hid (A0 w w4):=HX3.out.trans_ (A0.trans_ eX HE4.out);have hfu2:M.old<(O4 M:Int):=hfu;have g4:=(HE.out.ext HX4.out).full;clear hH q1 q2 x3 o3;go_wp2;go_ret;exact⟨rfl,HX4.out⟩
end Go.Proofs.YtelhoppfidibiaaGreatDoor
