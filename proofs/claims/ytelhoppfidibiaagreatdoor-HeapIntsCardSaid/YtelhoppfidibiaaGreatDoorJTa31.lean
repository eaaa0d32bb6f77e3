/- The two collectors of a heap. -/
import Derived.Test.YtelhoppfidibiaaGreatDoorJTa28
import Derived.Test.YtelhoppfidibiaaGreatDoorJTa25
import Derived.Test.YtelhoppfidibiaaGreatDoorJTa30
import Derived.Test.YtelhoppfidibiaaGreatDoorJTa19
import Derived.Test.YtelhoppfidibiaaGreatDoorJTa27
import Derived.Test.YtelhoppfidibiaaGreatDoorJTa09
import Derived.Test.YtelhoppfidibiaaGreatDoorJTa10
import Derived.Deep.Cut
import Derived.Deep.CutRange
import Derived.Deep.CutBlock
import Derived.Deep.RegionHeld3
set_option linter.unusedSimpArgs false
set_option linter.unusedVariables false
set_option maxHeartbeats 8000000
set_option maxRecDepth 100000
namespace Go.Proofs.YtelhoppfidibiaaGreatDoor
open Go.RowKit
theorem is_nil (a:Addr) (w:World):Calls Tryz.prog 45 #[.nilIface,errV a] w fun e w'=>e=.returned (.bool false)∧w'=w:=by
 have heq:=run_eql_iface_nil_left (P:=Tryz.prog) w 261 (.pointer (some a)) Tryz.underlying26
 go_enter Tryz.func45,Tryz.ntmps45
 go_wp2
 go_ret
 exact⟨rfl,rfl⟩
section
variable {B hb b:Nat} {M:Mem} {S:Sls} {E:Nat→Addr} {ten nx:Int}
theorem majorC_any (w:World) (hH:OHeap w B hb b M S ten nx) (hok:M.Ok) (hE:G4 E w) (hc:chk M=0) :
  Calls Tryz.prog 46 #[.pointer (some ⟨b,0,none⟩)] w (HPost w B hb b S ten (majorH M) nx (errC E (majorC M))):=by
 by_cases h:(liveM M:Int)≤M.old
 ·refine (major_walk B b M S E w hH.mem hE ⟨hok,hc,h⟩ hH.hbs).mono ?_
  rintro e w1 ⟨rfl,S',h1,h2,h3⟩
  unfold majorC majorH
  rw[if_pos h,if_pos h]
  obtain⟨g1,g2⟩:=hH.step h1 h2 h3
  exact⟨rfl,S',g1,g2⟩
 ·refine (major_full b M S E w (hH.mem.mem hok) hE hc (by omega)).mono ?_
  rintro e w1 ⟨rfl,hx⟩
  unfold majorC majorH
  rw[if_neg h,if_neg h]
  exact⟨rfl,S,hH.ext hx,HStep.of_ext hx⟩
theorem hMajor_walk (w:World) (hH:OHeap w B hb b M S ten nx) (hok:M.Ok) (hE:G4 E w) (hc:chk M=0) :
  Calls Tryz.prog 13 #[.pointer (some ⟨hb,0,none⟩)] w (HPost w B hb b S ten (majorH M) nx (errC E (majorC M))):=by
 have q0:=hH.ptr
 have HC:=Lib.hid (majorC_any w hH hok hE hc)
 clear hH hok hE hc
 go_enter Tryz.func13,Tryz.ntmps13
 go_wp2_with (go_at_call 46;refine HC.out.mono ?_;rintro e w1 ⟨rfl,hq⟩;have HQ:=Lib.hid hq;clear hq)
 go_ret
 exact⟨rfl,HQ.out⟩
theorem hMinor_full (w:World) (hH:OHeap w B hb b M S ten nx) (hok:M.Ok) (hE:G4 E w) (hc:chk M=0) (ht:0≤ten∧ten≤15) (hf:M.old-M.oldTop<M.top) :
  Calls Tryz.prog 12 #[.pointer (some ⟨hb,0,none⟩)] w (HPost w B hb b S ten (majorH M) nx (errC E (majorC M))):=by
 have q0:=hH.ptr
 have q1:=hH.tn
 have HH:=Lib.hid hH
 have HOK:=Lib.hid hok
 have HE:=Lib.hid hE
 have HC:=Lib.hid hc
 clear hH hok hE hc
 go_enter Tryz.func12,Tryz.ntmps12
 go_upto_region 1 with fail
 refine wp_region_held_drew (S:=fun W=>W.cell? ⟨hb,0,none⟩=some (.pointer (some ⟨b,0,none⟩))∧W.cell? ⟨hb,1,none⟩=some (.int .i64 ten)) (by kernel_rfl) ?_ (fun hHeld=>?_)
 ·exact⟨q0,q1⟩
 refine tk 0 ⟨some 4,_,_,_,_,_⟩ ?_ rfl ?_ ?_
 rotate_left
 ·(intro w hSw;(try dsimp only at hSw);go_simp;try with_reducible rfl)
 try simp only[tkS]
 refine tk 1 ⟨some 5,_,_,_,_,_⟩ ?_ rfl ?_ ?_
 rotate_left
 ·(intro w hSw;(try dsimp only at hSw);go_simp;try with_reducible rfl)
 try simp only[tkS]
 refine tk 2 ⟨some 6,_,_,_,_,_⟩ ?_ rfl ?_ ?_
 rotate_left
 ·(intro w hSw;(try dsimp only at hSw);go_simp;try with_reducible rfl)
 try simp only[tkS]
 refine tk 3 ⟨some 7,_,_,_,_,_⟩ ?_ rfl ?_ ?_
 rotate_left
 ·(intro w hSw;(try dsimp only at hSw);go_simp;try with_reducible rfl)
 try simp only[tkS]
 refine tk 4 ⟨some 8,_,_,_,_,_⟩ ?_ rfl ?_ ?_
 rotate_left
 ·(intro w hSw;(try dsimp only at hSw);go_simp;try with_reducible rfl)
 try simp only[tkS]
 refine tk 5 ⟨some 9,_,_,_,_,_⟩ ?_ rfl ?_ ?_
 rotate_left
 ·(intro w hSw;(try dsimp only at hSw);go_simp;try with_reducible rfl)
 try simp only[tkS]
 refine tk 6 ⟨some 10,_,_,_,_,_⟩ ?_ rfl ?_ ?_
 rotate_left
 ·(intro w hSw;(try dsimp only at hSw);go_simp;try with_reducible rfl)
 try simp only[tkS]
 refine tk 7 ⟨some 11,_,_,_,_,_⟩ ?_ rfl ?_ ?_
 rotate_left
 ·(intro w hSw;(try dsimp only at hSw);go_simp;try with_reducible rfl)
 try simp only[tkS]
 refine wpAnyH_ready (rs:=[8]) (by kernel_rfl) (by simp) ?_
 refine AllReadyH.cons (o:=⟨some 12,_,_,_,_,_⟩) rfl (fun K hK=>?_) AllReadyH.nil
 go_simp
 refine (collect_full b 0 M S E ten _ ((HH.out.mem.mem HOK.out).ext (by repeat (first|exact Ext.refl _|(refine Ext.drew_ ?_)|(refine Ext.drewN_ ?_ _)|(refine Ext.alloc_ ?_ _)))) (HE.out.ext (by repeat (first|exact Ext.refl _|(refine Ext.drew_ ?_)|(refine Ext.drewN_ ?_ _)|(refine Ext.alloc_ ?_ _)))) HC.out ht.1 ht.2 hf).mono ?_
 rintro e w1 ⟨rfl,hq⟩
 have HX1:Hid (Ext w w1):=Ext.trans_ (by repeat (first|exact Ext.refl _|(refine Ext.drew_ ?_)|(refine Ext.drewN_ ?_ _)|(refine Ext.alloc_ ?_ _))) hq
 clear hq
 refine hK.out _ _ ?_ (fun hHeld=>?_)
 ·(try dsimp only);exact⟨HX1.out.cell_ q0,HX1.out.cell_ q1⟩
 clear hK K
 try simp only[tkS]
 refine tk 9 ⟨some 3,_,_,_,_,_⟩ ?_ rfl ?_ ?_
 rotate_left
 ·(intro w hSw;(try dsimp only at hSw);go_simp;try with_reducible rfl)
 try simp only[tkS]
 refine wpAnyH_done (by kernel_rfl) ?_ _
 have p0:=HX1.out.cell_ q0
 have k5:=(HE.out.ext HX1.out).full
 clear hHeld q0 q1
 go_wp2_with (first
  | (go_at_call 45;refine (is_same (E 5) _).mono ?_;rintro e w9 ⟨rfl,hw9⟩;have hw9:=hw9.symm;subst hw9)
  | (go_at_call 46;refine (majorC_any _ (HH.out.ext HX1.out) HOK.out (HE.out.ext HX1.out) HC.out).mono ?_;rintro e w2 ⟨rfl,S2,h2,h3⟩;have HQ:Hid (OHeap w2 B hb b (majorH M) S2 ten nx∧HStep hb b w S w2 S2):=⟨h2,(HStep.of_ext HX1.out).trans_ h3⟩;clear h2 h3))
 go_ret
 exact⟨rfl,_,HQ.out⟩
theorem hMinor_room (w:World) (hH:OHeap w B hb b M S ten nx) (hok:M.Ok) (hE:G4 E w) (hc:chk M=0) (ht:0≤ten∧ten≤15) (hB:0<B∧3<B∧2<B) (hf:M.top≤M.old-M.oldTop) :
  Calls Tryz.prog 12 #[.pointer (some ⟨hb,0,none⟩)] w (HPost w B hb b S ten (collectC M ten) nx (.nilIface)):=by
 have q0:=hH.ptr
 have q1:=hH.tn
 have HH:=Lib.hid hH
 have HOK:=Lib.hid hok
 have HE:=Lib.hid hE
 have HC:=Lib.hid hc
 clear hH hok hE hc
 go_enter Tryz.func12,Tryz.ntmps12
 go_upto_region 1 with fail
 have hgb:=(⟨hB.1,hB.2.1⟩:_∧_)
 refine wp_region_held_drew (S:=fun W=>W.cell? ⟨hb,0,none⟩=some (.pointer (some ⟨b,0,none⟩))∧W.cell? ⟨hb,1,none⟩=some (.int .i64 ten)) (by kernel_rfl) ?_ (fun hHeld=>?_)
 ·exact⟨q0,q1⟩
 refine tk 0 ⟨some 4,_,_,_,_,_⟩ ?_ rfl ?_ ?_
 rotate_left
 ·(intro w hSw;(try dsimp only at hSw);go_simp;try with_reducible rfl)
 try simp only[tkS]
 refine tk 1 ⟨some 5,_,_,_,_,_⟩ ?_ rfl ?_ ?_
 rotate_left
 ·(intro w hSw;(try dsimp only at hSw);go_simp;try with_reducible rfl)
 try simp only[tkS]
 refine tk 2 ⟨some 6,_,_,_,_,_⟩ ?_ rfl ?_ ?_
 rotate_left
 ·(intro w hSw;(try dsimp only at hSw);go_simp;try with_reducible rfl)
 try simp only[tkS]
 refine tk 3 ⟨some 7,_,_,_,_,_⟩ ?_ rfl ?_ ?_
 rotate_left
 ·(intro w hSw;(try dsimp only at hSw);go_simp;try with_reducible rfl)
 try simp only[tkS]
 refine tk 4 ⟨some 8,_,_,_,_,_⟩ ?_ rfl ?_ ?_
 rotate_left
 ·(intro w hSw;(try dsimp only at hSw);go_simp;try with_reducible rfl)
 try simp only[tkS]
 refine tk 5 ⟨some 9,_,_,_,_,_⟩ ?_ rfl ?_ ?_
 rotate_left
 ·(intro w hSw;(try dsimp only at hSw);go_simp;try with_reducible rfl)
 try simp only[tkS]
 refine tk 6 ⟨some 10,_,_,_,_,_⟩ ?_ rfl ?_ ?_
 rotate_left
 ·(intro w hSw;(try dsimp only at hSw);go_simp;try with_reducible rfl)
 try simp only[tkS]
 refine tk 7 ⟨some 11,_,_,_,_,_⟩ ?_ rfl ?_ ?_
 rotate_left
 ·(intro w hSw;(try dsimp only at hSw);go_simp;try with_reducible rfl)
 try simp only[tkS]
 refine wpAnyH_ready (rs:=[8]) (by kernel_rfl) (by simp) ?_
 refine AllReadyH.cons (o:=⟨some 12,_,_,_,_,_⟩) rfl (fun K hK=>?_) AllReadyH.nil
 go_simp
 refine (collect_walk B b M S E ten _ (OM.ext HH.out.mem (by repeat (first|exact Ext.refl _|(refine Ext.drew_ ?_)|(refine Ext.drewN_ ?_ _)|(refine Ext.alloc_ ?_ _)))) (HE.out.ext (by repeat (first|exact Ext.refl _|(refine Ext.drew_ ?_)|(refine Ext.drewN_ ?_ _)|(refine Ext.alloc_ ?_ _)))).toG3 ⟨HOK.out,HC.out,ht,hf⟩ (by have:=HH.out.hbs;simp only[World.size_drew];omega) hgb).mono ?_
 rintro e w1 ⟨rfl,S',h1,h2,h3⟩
 have HQ:Hid (OHeap w1 B hb b (collectC M ten) S' ten nx∧HStep hb b w S w1 S'):=by
  obtain⟨g1,g2⟩:=(HH.out.ext (w':=w.drew) (by repeat (first|exact Ext.refl _|(refine Ext.drew_ ?_)|(refine Ext.drewN_ ?_ _)|(refine Ext.alloc_ ?_ _)))).step h1 h2 h3
  exact⟨g1,(HStep.of_ext (by repeat (first|exact Ext.refl _|(refine Ext.drew_ ?_)|(refine Ext.drewN_ ?_ _)|(refine Ext.alloc_ ?_ _)))).trans_ g2⟩
 clear h1 h2 h3
 refine hK.out _ _ ?_ (fun hHeld=>?_)
 ·(try dsimp only);exact⟨HQ.out.1.ptr,HQ.out.1.tn⟩
 clear hK K
 try simp only[tkS]
 refine tk 9 ⟨some 3,_,_,_,_,_⟩ ?_ rfl ?_ ?_
 rotate_left
 ·(intro w hSw;(try dsimp only at hSw);go_simp;try with_reducible rfl)
 try simp only[tkS]
 refine wpAnyH_done (by kernel_rfl) ?_ _
 have k5:w1.cell? ⟨2,0,none⟩=some (errV (E 5)):=HQ.out.2.keep.cell (fun e=>by
  have:=(HH.out.own e).1
  have:=hB.2.2
  simp only at *
  omega) HE.out.full
 clear hHeld q0 q1
 go_wp2_with (go_at_call 45;refine (is_nil (E 5) _).mono ?_;rintro e w9 ⟨rfl,hw9⟩;have hw9:=hw9.symm;subst hw9)
 go_ret
 exact⟨rfl,_,HQ.out⟩
theorem hMinor_walk (w:World) (hH:OHeap w B hb b M S ten nx) (hok:M.Ok) (hE:G4 E w) (hc:chk M=0) (ht:0≤ten∧ten≤15) (hB:0<B∧3<B∧2<B) :
  Calls Tryz.prog 12 #[.pointer (some ⟨hb,0,none⟩)] w (HPost w B hb b S ten (minorH M ten) nx (errC E (minorC M))):=by
 unfold minorH minorC
 by_cases h:M.top≤M.old-M.oldTop
 ·rw[if_pos h,if_pos h]
  exact hMinor_room w hH hok hE hc ht hB h
 ·rw[if_neg h,if_neg h]
  exact hMinor_full w hH hok hE hc ht (by omega)
end
def o1B (M:Mem) (n:Int):Bool:=decide (M.half<M.top+n)&&decide (n≤M.half)
def o1C (M:Mem) (n:Int):Int:=if o1B M n then minorC M else 0
def o1M (M:Mem) (ten n:Int):Mem:=if o1B M n then minorH M ten else M
def o2B (M:Mem) (n:Int):Bool:=decide (M.half<M.top+n)&&(decide (n≤M.half)||decide (M.old-M.oldTop<n))
def o2C (M:Mem) (n:Int):Int:=if o2B M n then majorC M else 0
def o2M (M:Mem) (n:Int):Mem:=if o2B M n then majorH M else M
def o3C (M:Mem) (n:Int):Int:=if M.top+n≤M.half then 0 else if n≤M.old-M.oldTop then 0 else 6
def atM (M:Mem) (n:Int):Nat:=if M.top+n≤M.half then M.base+M.top.toNat else (2*M.half).toNat+M.oldTop.toNat
def o3M (M:Mem) (kind:Int) (fs:List Int):Mem:=if M.top+(1+fs.length)≤M.half then newNM M kind fs else newOM M kind fs
def fillW (kind:Int):Int:=if rawB kind then 0 else 2
def objC (M:Mem) (ten:Int) (sz:Nat):Int :=
 if o1C M (1+sz)=0 then (if o2C (o1M M ten (1+sz)) (1+sz)=0 then o3C (o2M (o1M M ten (1+sz)) (1+sz)) (1+sz) else o2C (o1M M ten (1+sz)) (1+sz)) else o1C M (1+sz)
def midM (M:Mem) (ten:Int) (sz:Nat):Mem:=o2M (o1M M ten (1+sz)) (1+sz)
def objM (M:Mem) (ten kind:Int) (sz:Nat):Mem:=if objC M ten sz=0 then o3M (midM M ten sz) kind (List.replicate sz (fillW kind)) else if o1C M (1+sz)=0 then midM M ten sz else o1M M ten (1+sz)
def objPl (M:Mem) (ten:Int) (sz:Nat):Int:=if objC M ten sz=0 then (atM (midM M ten sz) (1+sz):Int) else 0
structure GB (B:Nat):Prop where
 bound:0<B
 shape:3<B
 place:1<B
 full:2<B
section
variable {B hb b:Nat} {M:Mem} {S:Sls} {E:Nat→Addr} {ten nx:Int}
theorem G4.step {w w':World} {S':Sls} (h:G4 E w) (hH:OHeap w B hb b M S ten nx) (hS:HStep hb b w S w' S') (hB:GB B):G4 E w':=by
 have key:∀ g v,g<B→w.cell? ⟨g,0,none⟩=some v→w'.cell? ⟨g,0,none⟩=some v:=fun g v hg hc=>hS.keep.cell (p:=⟨g,0,none⟩) (fun e=>by have h:=(hH.own e).1;simp only at h;omega) hc
 exact⟨⟨key _ _ hB.bound h.bound,key _ _ hB.shape h.shape,key _ _ hB.place h.place⟩,key _ _ hB.full h.full⟩
theorem OwnL.ownA {k:Nat} (h:OwnL b S k):OwnA b S k:=by
 rcases h with h|h|h
 ·exact Or.inl h
 ·exact Or.inr (Or.inl h)
 ·exact Or.inr (Or.inr (Or.inr (Or.inr (Or.inr h))))
theorem const2 (w:World):Calls Tryz.prog 39 #[.int .i64 0] w fun e w'=>e=.returned (.int .u64 2)∧w'=w:=const_any 0 w
def headM (M:Mem) (kind n:Int) (sz:Nat):Mem:=if M.top+n≤M.half then freshM M kind sz else {M with W:=M.W.set ((2*M.half).toNat+M.oldTop.toNat) (headW kind 0 0 sz),oldTop:=M.oldTop+n}
def fillM (M:Mem) (kind:Int) (sz k:Nat):Mem:={headM M kind (1+sz) sz with W:=splice (headM M kind (1+sz) sz).W (atM M (1+sz)+1) (List.replicate k (fillW kind))}
theorem headM_W (M:Mem) (kind:Int) (sz:Nat):(headM M kind (1+sz) sz).W=M.W.set (atM M (1+sz)) (headW kind 0 0 sz):=by
 unfold headM atM;split<;>rfl
theorem fillM_all (M:Mem) (kind:Int) (sz:Nat):fillM M kind sz sz=o3M M kind (List.replicate sz (fillW kind)):=by
 unfold fillM o3M newNM newOM newW
 rw[headM_W]
 unfold headM atM
 simp only[List.length_replicate]
 split
 ·unfold freshM;simp only
 ·simp only[Int.add_assoc]
theorem fillM_zero (M:Mem) (kind:Int) (sz:Nat):fillM M kind sz 0=headM M kind (1+sz) sz:=by
 unfold fillM splice;simp
theorem fill_next (L:List Int) (off k:Nat) (f:Int) (ho:off+(k+1)≤L.length):splice L off (List.replicate (k+1) f)=(splice L off (List.replicate k f)).set (off+k) f:=by
 unfold splice
 apply List.ext_getElem?
 intro i
 have e3:(L.take off).length=off:=by simp;omega
 rw[List.getElem?_set]
 simp only[List.getElem?_append,List.length_replicate,e3,List.length_append,List.length_drop]
 by_cases h1:i<off
 ·rw[if_pos h1,if_pos h1,if_neg (by omega)]
 ·rw[if_neg h1]
  by_cases h2:i=off+k
  ·subst h2
   rw[if_pos (by omega),if_pos rfl,if_pos (by omega),List.getElem?_replicate,if_pos (by omega)]
  ·rw[if_neg (show ¬off+k=i by omega),if_neg h1]
   by_cases h3:i-off<k
   ·rw[if_pos (by omega),if_pos h3,List.getElem?_replicate,List.getElem?_replicate,if_pos (by omega),if_pos h3]
   ·rw[if_neg (by omega),if_neg h3,List.getElem?_drop,List.getElem?_drop]
    congr 1
    omega
theorem fillM_next (M:Mem) (kind:Int) (sz k:Nat) (h:atM M (1+sz)+1+(k+1)≤(headM M kind (1+sz) sz).W.length):{fillM M kind sz k with W:=(fillM M kind sz k).W.set (atM M (1+sz)+1+k) (fillW kind)}=fillM M kind sz (k+1):=by
 unfold fillM
 simp only
 rw[←fill_next _ _ _ _ h]
theorem splice_len (L:List Int) (a k:Nat) (f:Int) (h:a+k≤L.length):(splice L a (List.replicate k f)).length=L.length:=length_splice _ _ _ (by simpa using h)
theorem obj_err1 {M:Mem} {ten:Int} {kind:Int} {sz:Nat} (h:o1C M (1+sz)≠0):objC M ten sz=o1C M (1+sz)∧objM M ten kind sz=o1M M ten (1+sz)∧objPl M ten sz=0:=by
 have e:objC M ten sz=o1C M (1+sz):=by unfold objC;rw[if_neg h]
 exact⟨e,by unfold objM;rw[e,if_neg h,if_neg h],by unfold objPl;rw[e,if_neg h]⟩
theorem obj_err2 {M:Mem} {ten:Int} {kind:Int} {sz:Nat} (h1:o1C M (1+sz)=0) (h:o2C (o1M M ten (1+sz)) (1+sz)≠0):objC M ten sz=o2C (o1M M ten (1+sz)) (1+sz)∧objM M ten kind sz=midM M ten sz∧objPl M ten sz=0:=by
 have e:objC M ten sz=o2C (o1M M ten (1+sz)) (1+sz):=by unfold objC;rw[if_pos h1,if_neg h]
 exact⟨e,by unfold objM;rw[e,if_neg h,if_pos h1],by unfold objPl;rw[e,if_neg h]⟩
theorem obj_end {M:Mem} {ten:Int} {sz:Nat} (h1:o1C M (1+sz)=0) (h2:o2C (o1M M ten (1+sz)) (1+sz)=0):objC M ten sz=o3C (midM M ten sz) (1+sz):=by
 unfold objC midM;rw[if_pos h1,if_pos h2]
theorem obj_err3 {M:Mem} {ten:Int} {kind:Int} {sz:Nat} (h1:o1C M (1+sz)=0) (h2:o2C (o1M M ten (1+sz)) (1+sz)=0) (h:o3C (midM M ten sz) (1+sz)=6):objC M ten sz=6∧objM M ten kind sz=midM M ten sz∧objPl M ten sz=0:=by
 have e:objC M ten sz=6:=by rw[obj_end h1 h2,h]
 exact⟨e,by unfold objM;rw[e,if_neg (by decide),if_pos h1],by unfold objPl;rw[e,if_neg (by decide)]⟩
theorem obj_ok {M:Mem} {ten:Int} {kind:Int} {sz:Nat} (h1:o1C M (1+sz)=0) (h2:o2C (o1M M ten (1+sz)) (1+sz)=0) (h:o3C (midM M ten sz) (1+sz)=0):objC M ten sz=0∧objM M ten kind sz=o3M (midM M ten sz) kind (List.replicate sz (fillW kind))∧objPl M ten sz=(atM (midM M ten sz) (1+sz):Int):=by
 have e:objC M ten sz=0:=by rw[obj_end h1 h2,h]
 exact⟨e,by unfold objM;rw[if_pos e],by unfold objPl;rw[if_pos e]⟩
theorem o1_inv {M:Mem} {ten nx n:Int} (ht:0≤ten∧ten≤15) (h:HInv M nx):HInv (o1M M ten n) nx∧SameH M (o1M M ten n):=by
 unfold o1M;split
 ·exact minorH_inv ht h
 ·exact⟨h,SameH.refl M⟩
theorem o2_inv {M:Mem} {nx n:Int} (h:HInv M nx):HInv (o2M M n) nx∧SameH M (o2M M n):=by
 unfold o2M;split
 ·exact majorH_inv h
 ·exact⟨h,SameH.refl M⟩
theorem mid_inv {M:Mem} {ten nx:Int} {sz:Nat} (ht:0≤ten∧ten≤15) (h:HInv M nx):HInv (midM M ten sz) nx∧SameH M (midM M ten sz):=by
 obtain⟨a,b⟩:=o1_inv (n:=1+sz) ht h
 obtain⟨c,d⟩:=o2_inv (n:=1+sz) a
 exact⟨c,b.trans d⟩
theorem at_in {M:Mem} {kind:Int} {sz:Nat} (hs:Shp M) (h:o3C M (1+sz)=0):atM M (1+sz)+1+sz≤M.W.length∧(headM M kind (1+sz) sz).W.length=M.W.length:=by
 obtain⟨h1,h2,h3,h4,h5,h6,h7,h8,h9,h10,h11,h12,h13,h14⟩:=id hs
 have hb:=hs.base
 constructor
 ·unfold atM
  split
  ·omega
  ·unfold o3C at h
   rename_i q
   rw[if_neg q] at h
   split at h
   ·omega
   ·omega
 ·rw[headM_W];simp
theorem OHeap.setW {w:World} (h:OHeap w B hb b M S ten nx) {g:Nat} (hg:S.W.1=some ⟨g,0,none⟩) (j:Nat) (hj:j<M.W.length) (x:Int) :
  OHeap (w.setCell ⟨g,j,none⟩ (.int .u64 x)) B hb b {M with W:=M.W.set j x} S ten nx∧HStep hb b w S (w.setCell ⟨g,j,none⟩ (.int .u64 x)) S :=
 h.step (OMem.setW h.mem hg j hj x) (Keep.set_ (L:=OwnA b S) (Keep.refl _ w) (p:=⟨g,j,none⟩) (Or.inl (Or.inr (Or.inl hg))) _) (fun _ q=>Or.inl q)
theorem OHeap.setOldTop {w:World} (h:OHeap w B hb b M S ten nx) (x:Int) :
  OHeap (w.setCell ⟨b,6,none⟩ (.int .i64 x)) B hb b {M with oldTop:=x} S ten nx∧HStep hb b w S (w.setCell ⟨b,6,none⟩ (.int .i64 x)) S :=
 h.step (OMem.setOldTop h.mem x) (Keep.set_ (L:=OwnA b S) (Keep.refl _ w) (p:=⟨b,6,none⟩) (Or.inl (Or.inl rfl)) _) (fun _ q=>Or.inl q)
theorem obj_fin {w wr:World} {n kind:Int} {sz A:Nat} {M1 M2:Mem} {S3:Sls} (hn:n=1+(sz:Int)) (hM1:M1=o1M M ten n) (hM2:M2=o2M M1 n) (h1:o1C M n=0) (h2:o2C M1 n=0) (h3:o3C M2 n=0) (hA:A=atM M2 n)
  (hO:OHeap wr B hb b (fillM M2 kind sz sz) S3 ten nx) (hS:HStep hb b w S wr S3):HPost w B hb b S ten (objM M ten kind sz) nx (.tuple #[.int .i64 (objPl M ten sz),errC E (objC M ten sz)]) (.returned (.tuple #[.int .i64 (A:Int),.nilIface])) wr:=by
 subst hn hM1 hM2 hA
 obtain⟨r1,r2,r3⟩:=obj_ok (ten:=ten) (kind:=kind) (sz:=sz) h1 h2 h3
 rw[r1,r2,r3]
 rw[fillM_all] at hO
 exact⟨rfl,S3,hO,hS⟩
def OPost (w:World) (B hb b:Nat) (M:Mem) (S:Sls) (E:Nat→Addr) (ten nx kind:Int) (sz:Nat) (e:Ending) (w':World):Prop :=
 HPost w B hb b S ten (objM M ten kind sz) nx (.tuple #[.int .i64 (objPl M ten sz),errC E (objC M ten sz)]) e w'
theorem shp_nums {M:Mem} (h:Shp M) {n:Int} (hn:1≤n∧n≤4097):IntKind.i64.wrap (M.top+n)=M.top+n∧IntKind.i64.wrap (M.old-M.oldTop)=M.old-M.oldTop∧IntKind.i64.wrap (2*M.half)=2*M.half∧IntKind.i64.wrap (2*M.half+M.oldTop)=2*M.half+M.oldTop∧IntKind.i64.wrap (M.oldTop+n)=M.oldTop+n:=by
 obtain⟨h1,h2,h3,h4,h5,h6,h7,h8,h9,h10,h11,h12,h13,h14⟩:=h
 refine⟨IntWalk.i64_in _ (by omega),IntWalk.i64_in _ (by omega),IntWalk.i64_in _ (by omega),IntWalk.i64_in _ (by omega),IntWalk.i64_in _ (by omega)⟩
theorem object_walk (kind:Int) (sz:Nat) (w:World) (hH:OHeap w B hb b M S ten nx) (hI:HInv M nx) (hE:G4 E w) (ht:0≤ten∧ten≤15) (hB:GB B) (hk:0≤kind∧kind≤255) (hz:sz≤4096) :
  Calls Tryz.prog 41 #[.pointer (some ⟨hb,0,none⟩),.int .i64 kind,.int .i64 (sz:Int)] w (OPost w B hb b M S E ten nx kind sz):=by
 obtain⟨n,hn⟩:∃ n:Int,n=1+(sz:Int):=⟨_,rfl⟩
 have e0:IntKind.i64.wrap (1+(sz:Int))=n:=by rw[IntWalk.i64_in _ (by omega),hn]
 have hn1:1≤n∧n≤4097:=by omega
 have HN:=Lib.hid hn
 have HH:=Lib.hid hH
 have HI:=Lib.hid hI
 have HE:=Lib.hid hE
 have HB:=Lib.hid hB
 have hs:=(good_parts (chk_zero hI.chk).1).1
 obtain⟨e1,e2,e3,e4,e5⟩:=shp_nums hs hn1
 have q0:=HH.out.ptr
 have hMm:=HH.out.mem.mem HI.out.ok
 have c0:=hMm.half
 have c1:=hMm.old
 have c5:=hMm.top
 have c6:=hMm.oldTop
 simp only[Nat.zero_add] at c0 c1 c5 c6
 clear hH hI hE hs hMm hn hB e3 e4 e5
 go_enter Tryz.func41,Tryz.ntmps41
 go_upto_region 2 with fail
 go_cut [43] from 16 to 43 (fun c wx=>c=.bool (o1B M n)∧Hid (Ext w wx))
 case first =>
  by_cases g1:M.half<M.top+n
  ·have g1b:decide (M.half<M.top+n)=true:=decide_eq_true g1
   by_cases g2:n≤M.half
   ·have g2b:decide (n≤M.half)=true:=decide_eq_true g2
    go_region
    go_wp2_with fail
    go_meet
    case rel=>exact⟨by unfold o1B;rw[g1b,g2b];rfl,(Ext.refl _).drew_⟩
   ·have g2b:decide (n≤M.half)=false:=decide_eq_false g2
    go_region
    go_wp2_with fail
    go_meet
    case rel=>exact⟨by unfold o1B;rw[g1b,g2b];rfl,(Ext.refl _).drew_⟩
  ·have g1b:decide (M.half<M.top+n)=false:=decide_eq_false g1
   go_region
   go_wp2_with fail
   go_meet
   case rel=>exact⟨by unfold o1B;rw[g1b];rfl,(Ext.refl _).drew_⟩
 case rest =>
  obtain⟨rfl,HX1⟩:=hcut
  clear q0 c0 c1 c5 c6 e1 e2
  go_upto_if 43 with fail
  go_cut [43] from 44 to 47 (fun c wx=>Hid (o1C M n=0)∧∃ S1,Hid (OHeap wx B hb b (o1M M ten n) S1 ten nx)∧Hid (HStep hb b w S wx S1))
  case first =>
   cases h1:o1B M n with
   | false =>
    go_wp2_with fail
    go_meet
    case rel=>exact⟨by unfold Hid o1C;rw[h1];rfl,S,by unfold Hid o1M;rw[h1];exact HH.out.ext HX1.out,HStep.of_ext HX1.out⟩
   | true =>
    have hm1:o1M M ten n=minorH M ten:=by unfold o1M;rw[h1];rfl
    have hc1:o1C M n=minorC M:=by unfold o1C;rw[h1];rfl
    have HM1:=Lib.hid hm1
    have HC1:=Lib.hid hc1
    clear hm1 hc1
    by_cases h2:minorC M=0
    ·have hv:Hid (errC E (minorC M)=.nilIface):=by rw[Hid,h2];rfl
     have H2:=Lib.hid h2
     clear h2
     go_wp2_with (go_at_call 12;refine (hMinor_walk _ (HH.out.ext HX1.out) HI.out.ok (HE.out.ext HX1.out) HI.out.chk ht ⟨HB.out.bound,HB.out.shape,HB.out.full⟩).mono ?_;rintro e w3 ⟨he,S1,h3,h4⟩;rw[hv.out] at he;subst he;have HH1:=Lib.hid h3;have HS1:Hid (HStep hb b w S w3 S1):=(HStep.of_ext HX1.out).trans_ h4;clear h3 h4)
     go_meet
     case rel=>exact⟨by rw[Hid,HC1.out];exact H2.out,S1,by rw[Hid,HM1.out];exact HH1.out,HS1.out⟩
    ·obtain⟨ea,hv⟩:∃ ea,Hid (errC E (minorC M)=errV ea):=⟨_,errC_pos E _ h2⟩
     have H2:=Lib.hid h2
     clear h2
     go_wp2_with (go_at_call 12;refine (hMinor_walk _ (HH.out.ext HX1.out) HI.out.ok (HE.out.ext HX1.out) HI.out.chk ht ⟨HB.out.bound,HB.out.shape,HB.out.full⟩).mono ?_;rintro e w3 ⟨he,S1,h3,h4⟩;rw[hv.out] at he;subst he;have HH1:=Lib.hid h3;have HS1:Hid (HStep hb b w S w3 S1):=(HStep.of_ext HX1.out).trans_ h4;clear h3 h4)
     go_ret2
     have hn:=HN.out
     subst hn
     obtain⟨r1,r2,r3⟩:=obj_err1 (ten:=ten) (kind:=kind) (sz:=sz) (by rw[HC1.out];exact H2.out)
     unfold OPost
     rw[r1,r2,r3,HC1.out,HM1.out,hv.out]
     exact⟨rfl,S1,HH1.out,HS1.out⟩
  case rest =>
   obtain⟨HC1,S1,HH1,HS1⟩:=hcut
   obtain⟨wA,rfl⟩:∃ x,x=wc:=⟨wc,rfl⟩
   have HI1:=Lib.hid (o1_inv (n:=n) ht HI.out).1
   have HE1:=Lib.hid (HE.out.step HH.out HS1.out HB.out)
   obtain⟨M1,hM1⟩:∃ M1,M1=o1M M ten n:=⟨_,rfl⟩
   rw[←hM1] at HH1 HI1
   have HM1:=Lib.hid hM1
   clear hM1 HX1
   have q0:=HH1.out.ptr
   have hMm:=HH1.out.mem.mem HI1.out.ok
   have c0:=hMm.half
   have c1:=hMm.old
   have c5:=hMm.top
   have c6:=hMm.oldTop
   simp only[Nat.zero_add] at c0 c1 c5 c6
   have hs:=(good_parts (chk_zero HI1.out.chk).1).1
   obtain⟨e1,e2,e3,e4,e5⟩:=shp_nums hs hn1
   clear e3 e4 e5 hMm hs
   go_upto_region 6 with fail
   go_cut [95] from 49 to 95 (fun c wx=>c=.bool (o2B M1 n)∧Hid (Ext wA wx))
   case first =>
    by_cases g1:M1.half<M1.top+n
    ·have g1b:decide (M1.half<M1.top+n)=true:=decide_eq_true g1
     by_cases g2:n≤M1.half
     ·have g2b:decide (n≤M1.half)=true:=decide_eq_true g2
      go_region
      go_wp2_with fail
      go_meet
      case rel=>exact⟨by unfold o2B;rw[g1b,g2b];rfl,(Ext.refl _).drew_⟩
     ·have g2b:decide (n≤M1.half)=false:=decide_eq_false g2
      by_cases g3:M1.old-M1.oldTop<n
      ·have g3b:decide (M1.old-M1.oldTop<n)=true:=decide_eq_true g3
       go_region
       go_wp2_with fail
       go_meet
       case rel=>exact⟨by unfold o2B;rw[g1b,g2b,g3b];rfl,(Ext.refl _).drew_⟩
      ·have g3b:decide (M1.old-M1.oldTop<n)=false:=decide_eq_false g3
       go_region
       go_wp2_with fail
       go_meet
       case rel=>exact⟨by unfold o2B;rw[g1b,g2b,g3b];rfl,(Ext.refl _).drew_⟩
    ·have g1b:decide (M1.half<M1.top+n)=false:=decide_eq_false g1
     go_region
     go_wp2_with fail
     go_meet
     case rel=>exact⟨by unfold o2B;rw[g1b];rfl,(Ext.refl _).drew_⟩
   case rest =>
    obtain⟨rfl,HX2⟩:=hcut
    clear q0 c0 c1 c5 c6 e1 e2
    go_upto_if 95 with fail
    go_cut [95] from 96 to 99 (fun c wx=>Hid (o2C M1 n=0)∧∃ S2,Hid (OHeap wx B hb b (o2M M1 n) S2 ten nx)∧Hid (HStep hb b w S wx S2))
    case first =>
     cases h1:o2B M1 n with
     | false =>
      go_wp2_with fail
      go_meet
      case rel=>exact⟨by unfold Hid o2C;rw[h1];rfl,S1,by unfold Hid o2M;rw[h1];exact HH1.out.ext HX2.out,HS1.out.trans_ (HStep.of_ext HX2.out)⟩
     | true =>
      have hm1:o2M M1 n=majorH M1:=by unfold o2M;rw[h1];rfl
      have hc1:o2C M1 n=majorC M1:=by unfold o2C;rw[h1];rfl
      have HM2:=Lib.hid hm1
      have HC2:=Lib.hid hc1
      clear hm1 hc1
      by_cases h2:majorC M1=0
      ·have hv:Hid (errC E (majorC M1)=.nilIface):=by rw[Hid,h2];rfl
       have H2:=Lib.hid h2
       clear h2
       go_wp2_with (go_at_call 13;refine (hMajor_walk _ (HH1.out.ext HX2.out) HI1.out.ok (HE1.out.ext HX2.out) HI1.out.chk).mono ?_;rintro e w3 ⟨he,S2,h3,h4⟩;rw[hv.out] at he;subst he;have HH2:=Lib.hid h3;have HS2:Hid (HStep hb b w S w3 S2):=(HS1.out.trans_ (HStep.of_ext HX2.out)).trans_ h4;clear h3 h4)
       go_meet
       case rel=>exact⟨by rw[Hid,HC2.out];exact H2.out,S2,by rw[Hid,HM2.out];exact HH2.out,HS2.out⟩
      ·obtain⟨ea,hv⟩:∃ ea,Hid (errC E (majorC M1)=errV ea):=⟨_,errC_pos E _ h2⟩
       have H2:=Lib.hid h2
       clear h2
       go_wp2_with (go_at_call 13;refine (hMajor_walk _ (HH1.out.ext HX2.out) HI1.out.ok (HE1.out.ext HX2.out) HI1.out.chk).mono ?_;rintro e w3 ⟨he,S2,h3,h4⟩;rw[hv.out] at he;subst he;have HH2:=Lib.hid h3;have HS2:Hid (HStep hb b w S w3 S2):=(HS1.out.trans_ (HStep.of_ext HX2.out)).trans_ h4;clear h3 h4)
       go_ret2
       have hn:=HN.out
       subst hn
       have hM1:=HM1.out
       subst hM1
       obtain⟨r1,r2,r3⟩:=obj_err2 (ten:=ten) (kind:=kind) (sz:=sz) HC1.out (by rw[HC2.out];exact H2.out)
       unfold OPost
       rw[r1,r2,r3,HC2.out,hv.out]
       unfold midM
       rw[HM2.out]
       exact⟨rfl,S2,HH2.out,HS2.out⟩
    case rest =>
     obtain⟨HC2,S2,HH2,HS2⟩:=hcut
     obtain⟨wB,rfl⟩:∃ x,x=wc:=⟨wc,rfl⟩
     have HI2:=Lib.hid (o2_inv (n:=n) HI1.out).1
     have HE2:=Lib.hid (HE.out.step HH.out HS2.out HB.out)
     obtain⟨M2,hM2⟩:∃ M2,M2=o2M M1 n:=⟨_,rfl⟩
     rw[←hM2] at HH2 HI2
     have HM2:=Lib.hid hM2
     clear hM2 HX2
     have q0:=HH2.out.ptr
     have hMm:=HH2.out.mem.mem HI2.out.ok
     have c0:=hMm.half
     have c1:=hMm.old
     have c5:=hMm.top
     have c6:=hMm.oldTop
     simp only[Nat.zero_add] at c0 c1 c5 c6
     have hs:=(good_parts (chk_zero HI2.out.chk).1).1
     obtain⟨e1,e2,e3,e4,e5⟩:=shp_nums hs hn1
     obtain⟨s1,s2,s3,s4,s5,s6,s7,s8,s9,s10,s11,s12,s13,s14⟩:=id hs
     have HSH:=Lib.hid hs
     have hsb:=hs.base
     obtain⟨at_,hat⟩:∃ a:Nat,a=(2*M2.half).toNat+M2.oldTop.toNat:=⟨_,rfl⟩
     have hat2:2*M2.half+M2.oldTop=(at_:Int):=by omega
     replace e4:IntKind.i64.wrap (2*M2.half+M2.oldTop)=(at_:Int):=by rw[e4];exact hat2
     have HAT:=Lib.hid hat
     clear hMm hs hat2 hat
     go_upto_region 10 with fail
     go_region
     go_upto_block 0 with fail
     refine named_world' (fun wC hwC=>?_)
     have hHXC:Hid (Ext wB wC):=by rw[hwC];exact (Ext.refl _).drew_
     have q0':=hHXC.out.cell_ q0
     have c0':=hHXC.out.cell_ c0
     have c1':=hHXC.out.cell_ c1
     have c5':=hHXC.out.cell_ c5
     have c6':=hHXC.out.cell_ c6
     clear hwC
     go_cut [11] from 118 to 184 (fun a wx=>Hid (o3C M2 n=0)∧a=.int .i64 (atM M2 n:Int)∧∃ S3,Hid (OHeap wx B hb b (headM M2 kind n sz) S3 ten nx)∧Hid (HStep hb b w S wx S3))
     case first =>
      by_cases g1:M2.top+n≤M2.half
      ·have hA:Hid (atM M2 n=M2.base+M2.top.toNat):=if_pos g1
       have hHd:Hid (headM M2 kind n sz=freshM M2 kind sz):=if_pos g1
       have hC3:Hid (o3C M2 n=0):=if_pos g1
       go_upto_if 118 with (go_region)
       refine named_world' (fun wD hwD=>?_)
       have hHXD:Hid (Ext wB wD):=by rw[hwD];exact hHXC.out.drew_
       have q0'':=hHXD.out.cell_ q0
       clear hwD
       go_wp2_with (go_at_call 87;refine (fresh_obj B b M2 S2 _ (HH2.out.ext hHXD.out).mem HI2.out.ok HSH.out kind (sz:Int) hk ⟨by omega,by omega⟩ (by have:=HN.out;omega)).mono ?_;rintro e w5 ⟨rfl,hq1,hq2⟩;have HO5:=Lib.hid hq1;have HK5:=Lib.hid hq2;clear hq1 hq2)
       go_meet
       case rel =>
        obtain⟨z1,z2⟩:=(HH2.out.ext hHXD.out).step HO5.out (HK5.out.sub fun k=>OwnL.ownA) (fun _ q=>Or.inl q)
        exact⟨hC3.out,by rw[hA.out];exact congrArg _ (by omega),S2,by rw[Hid,hHd.out];exact z1,(HS2.out.trans_ (HStep.of_ext hHXD.out)).trans_ z2⟩
      ·have hA:Hid (atM M2 n=at_):=by unfold Hid atM;rw[if_neg g1,HAT.out]
       have hHd:Hid (headM M2 kind n sz={M2 with W:=M2.W.set at_ (headW kind 0 0 sz),oldTop:=M2.oldTop+n}):=by unfold Hid headM;rw[if_neg g1,←HAT.out]
       by_cases g2:n≤M2.old-M2.oldTop
       ·have hC3:Hid (o3C M2 n=0):=by unfold Hid o3C;rw[if_neg g1,if_pos g2]
        have hn:=HN.out
        have hlen:at_<M2.W.length:=by have:=HAT.out;omega
        obtain⟨g,hg,hgB,hgl,hgf,hgc,-⟩:=own_block (OMem.fW HH2.out.mem) (by omega)
        have hMm:=HH2.out.mem.mem HI2.out.ok
        have c3:=hMm.W
        simp only[Nat.zero_add] at c3
        rw[hg] at c3
        have hgb:g≠b:=fun e=>(HH2.out.mem.fld ⟨3,78,1,S2.W.1,M2.W.length,S2.W.2,wcells M2.W⟩ (by simp[memFlds])).2.2 (by simp[Fld.val,hg,Value.ownBlock,e])
        have hghb:g≠hb:=fun e=>HH2.out.ne (Or.inr (Or.inl (by rw[hg,e])))
        have hcell:wB.cell? ⟨g,at_,none⟩=some (.int .u64 (M2.W.getD at_ 0)):=by
         have:=hMm.rW
         rw[hg] at this
         simpa using this.at_ (wcells_at M2.W at_ hlen)
        have hfg:=hgf at_
        have HG:=Lib.hid hg
        clear hg hMm hgf hn s7
        go_upto_if 118 with (go_region)
        go_upto_region 14 with fail
        go_region
        go_upto_if 143 with fail
        go_upto_region 15 with fail
        refine named_world' (fun wD hwD=>?_)
        have hHXD:Hid (Ext wB wD):=by rw[hwD];repeat (first|exact hHXC.out|(refine Ext.drew_ ?_))
        clear hwD
        refine wp_region_held_drew (S:=fun W=>W.cell? ⟨hb,0,none⟩=some (.pointer (some ⟨b,0,none⟩))∧W.cell? ⟨b,3,none⟩=some (.slice (some ⟨g,0,none⟩) M2.W.length S2.W.2)) (by kernel_rfl) ?_ (fun hHeld=>?_)
        ·exact⟨hHXD.out.cell_ q0,hHXD.out.cell_ c3⟩
        refine tk 0 ⟨some 161,_,_,_,_,_⟩ ?_ rfl ?_ ?_
        rotate_left
        ·(intro w hSw;(try dsimp only at hSw);go_simp;try with_reducible rfl)
        try simp only[tkS]
        refine tk 1 ⟨some 162,_,_,_,_,_⟩ ?_ rfl ?_ ?_
        rotate_left
        ·(intro w hSw;(try dsimp only at hSw);go_simp;try with_reducible rfl)
        try simp only[tkS]
        refine tk 2 ⟨some 163,_,_,_,_,_⟩ ?_ rfl ?_ ?_
        rotate_left
        ·(intro w hSw;(try dsimp only at hSw);go_simp;try with_reducible rfl)
        try simp only[tkS]
        refine tk 3 ⟨some 164,_,_,_,_,_⟩ ?_ rfl ?_ ?_
        rotate_left
        ·(intro w hSw;(try dsimp only at hSw);go_simp;try with_reducible rfl)
        try simp only[tkS]
        refine tk 4 ⟨some 165,_,_,_,_,_⟩ ?_ rfl ?_ ?_
        rotate_left
        ·(intro w hSw;(try dsimp only at hSw);go_simp;try with_reducible rfl)
        try simp only[tkS]
        refine tk 5 ⟨some 166,_,_,_,_,_⟩ ?_ rfl ?_ ?_
        rotate_left
        ·(intro w hSw;(try dsimp only at hSw);go_simp;try with_reducible rfl)
        try simp only[tkS]
        refine tk 6 ⟨some 167,_,_,_,_,_⟩ ?_ rfl ?_ ?_
        rotate_left
        ·(intro w hSw;(try dsimp only at hSw);go_simp;try with_reducible rfl)
        try simp only[tkS]
        refine tk 7 ⟨some 168,_,_,_,_,_⟩ ?_ rfl ?_ ?_
        rotate_left
        ·(intro w hSw;(try dsimp only at hSw);go_simp;try with_reducible rfl)
        try simp only[tkS]
        refine tk 8 ⟨some 169,_,_,_,_,_⟩ ?_ rfl ?_ ?_
        rotate_left
        ·(intro w hSw;(try dsimp only at hSw);go_simp;try with_reducible rfl)
        try simp only[tkS]
        refine tk 9 ⟨some 170,_,_,_,_,_⟩ ?_ rfl ?_ ?_
        rotate_left
        ·(intro w hSw;(try dsimp only at hSw);go_simp;try with_reducible rfl)
        try simp only[tkS]
        refine tk 10 ⟨some 171,_,_,_,_,_⟩ ?_ rfl ?_ ?_
        rotate_left
        ·(intro w hSw;(try dsimp only at hSw);go_simp;try with_reducible rfl)
        try simp only[tkS]
        refine wpAnyH_ready (rs:=[11]) (by kernel_rfl) (by simp) ?_
        refine AllReadyH.cons (o:=⟨some 172,_,_,_,_,_⟩) rfl (fun K hK=>?_) AllReadyH.nil
        go_simp
        refine (headWord_any kind 0 0 (sz:Int) hk (by omega) (by omega) ⟨by omega,by omega⟩ _).mono ?_
        rintro e w4 ⟨rfl,hq⟩
        have HX4:Hid (Ext wB w4):=Ext.trans_ (by first|exact hHXD.out|exact hHXD.out.drew_|exact hHXD.out.drewN_ _) hq
        clear hq
        have g3:=HX4.out.cell_ c3
        have gq:=HX4.out.cell_ q0
        have gc:=HX4.out.cell_ hcell
        have gf:w4.frozen? ⟨g,at_,none⟩=false:=by rw[HX4.out.three.2.1 _ _ hgl];exact hfg
        refine hK.out _ _ ?_ (fun hHeld=>?_)
        ·(try dsimp only);exact⟨gq,g3⟩
        clear hK K
        try simp only[tkS]
        refine tk 12 ⟨some 173,_,_,_,_,_⟩ ?_ rfl ?_ ?_
        rotate_left
        ·(intro w hSw;(try dsimp only at hSw);go_simp;try with_reducible rfl)
        try simp only[tkS]
        refine wpAnyH_ready (rs:=[13]) (by kernel_rfl) (by simp) ?_
        refine AllReadyH.cons (o:=⟨none,_,_,_,_,_⟩) rfl (fun K hK=>?_) AllReadyH.nil
        go_simp
        skip
        refine hK.out _ _ ?_ (fun hHeld=>?_)
        ·(try dsimp only);exact⟨by rw[World.cell?_setCell_far _ _ _ _ (by simp;omega)];exact gq,by rw[World.cell?_setCell_far _ _ _ _ (by simp;omega)];exact g3⟩
        clear hK K
        try simp only[tkS]
        refine wpAnyH_done (by kernel_rfl) ?_ _
        clear hHeld
        obtain⟨z1,z2⟩:=(HH2.out.ext HX4.out).setW HG.out at_ hlen (headW kind 0 0 sz)
        have HS5:=Lib.hid ((HS2.out.trans_ (HStep.of_ext HX4.out)).trans_ z2)
        generalize w4.setCell ⟨g,at_,none⟩ (Value.int .u64 (headW kind 0 0 sz))=w5 at *
        have p0:=z1.ptr
        have p6:w5.cell? ⟨b,6,none⟩=some (.int .i64 M2.oldTop):=z1.mem.num (6,M2.oldTop) (by simp[memNums])
        have pf:=OM.frozen z1.mem 6
        have HH5:=Lib.hid z1
        clear z1 z2 g3 gq gc gf
        go_wp2_with fail
        go_meet
        case rel =>
         obtain⟨z1,z2⟩:=HH5.out.setOldTop (M2.oldTop+n)
         exact⟨hC3.out,by rw[hA.out],S2,by rw[Hid,hHd.out];exact z1,HS5.out.trans_ z2⟩
       ·have hC3:Hid (o3C M2 n=6):=by unfold Hid o3C;rw[if_neg g1,if_neg g2]
        have k5:=(HE2.out.ext hHXC.out).full
        go_upto_if 118 with (go_region)
        go_upto_region 14 with fail
        go_region
        go_upto_if 143 with fail
        go_upto_region 11 with fail
        go_region
        go_wp2
        go_ret2
        have hn:=HN.out
        subst hn
        have hM1:=HM1.out
        subst hM1
        obtain⟨r1,r2,r3⟩:=obj_err3 (ten:=ten) (kind:=kind) (sz:=sz) HC1.out HC2.out (by unfold midM;rw[←HM2.out];exact hC3.out)
        unfold OPost
        rw[r1,r2,r3]
        unfold midM
        rw[←HM2.out]
        exact⟨rfl,S2,(HH2.out.ext hHXC.out).ext (by repeat (first|exact Ext.refl _|(refine Ext.drew_ ?_))),(HS2.out.trans_ (HStep.of_ext hHXC.out)).trans_ (HStep.of_ext (by repeat (first|exact Ext.refl _|(refine Ext.drew_ ?_))))⟩
     case rest =>
      obtain⟨HC3,rfl,S3,HH3,HS3⟩:=hcut
      obtain⟨wE,rfl⟩:∃ x,x=wc:=⟨wc,rfl⟩
      have hn:=HN.out
      obtain⟨hA1,hA2⟩:=at_in (kind:=kind) (sz:=sz) HSH.out (by rw[←hn];exact HC3.out)
      rw[←hn] at hA1 hA2
      obtain⟨A,hA⟩:∃ A,A=atM M2 n:=⟨_,rfl⟩
      rw[←hA] at hA1 ⊢
      have HA:=Lib.hid hA
      have HA2:=Lib.hid hA2
      have hwl:M2.W.length≤1000000:=by omega
      have f1:IntKind.i64.wrap ((A:Int)+1)=((A+1:Nat):Int):=by rw[IntWalk.i64_in _ (by omega)];omega
      have f2:IntKind.i64.wrap ((A:Int)+n)=(A:Int)+n:=IntWalk.i64_in _ (by omega)
      clear q0 c0 c1 c5 c6 q0' c0' c1' c5' c6' e1 e2 e3 e4 e5 hA hA2 hn hHXC hsb
      go_upto_if 187 with (first
       | (go_at_call 39;refine (const2 _).mono ?_;rintro e w9 ⟨rfl,hw9⟩;have hw9:=hw9.symm;subst hw9)
       | (go_at_call 89;refine (raw_any _ _).mono ?_;rintro e w9 ⟨rfl,hw9⟩;have hw9:=hw9.symm;subst hw9))
      go_cut [12,187] from 186 to 187 (fun a c wx=>a=.int .u64 (fillW kind)∧wx=wE)
      case first =>
       cases hr:rawB kind with
       | true =>
        go_wp2_with fail
        go_meet
        case rel=>exact⟨by unfold fillW;rw[hr];rfl,rfl⟩
       | false =>
        go_wp2_with fail
        go_meet
        case rel=>exact⟨by unfold fillW;rw[hr];rfl,rfl⟩
      case rest =>
       obtain⟨rfl,rfl⟩:=hcut
       obtain⟨g,hg,hgB,-,-,-,-⟩:=own_block (OMem.fW HH3.out.mem) (by rw[HA2.out];omega)
       have HG:=Lib.hid hg
       clear hg
       go_wp2
       go_loopw [13] (fun i wr=>∃ k j:Nat,Hid (j=A+1+k)∧k≤sz∧i=.int .i64 (j:Int)∧Hid (OHeap wr B hb b (fillM M2 kind sz k) S3 ten nx)∧Hid (HStep hb b w S wr S3)) (fun i _=>A+1+sz-(intOf i).toNat)
       case atStart=>exact⟨0,A+1,rfl,Nat.zero_le _,rfl,by rw[Hid,fillM_zero,←HN.out];exact HH3.out,HS3.out⟩
       case round =>
        obtain⟨k,j,hj,hk2,rfl,hO,hS⟩:=hrel
        have hL:(fillM M2 kind sz k).W.length=M2.W.length:=by
         unfold fillM
         simp only
         rw[splice_len _ _ _ _ (by rw[←HN.out,HA2.out,←HA.out];omega),←HN.out,HA2.out]
        by_cases hlt:k<sz
        ·have hltz:(j:Int)<(A:Int)+n:=by have:=HN.out;have:=hj.out;omega
         have hjl:j<M2.W.length:=by have:=hj.out;omega
         have f3:IntKind.i64.wrap ((j:Int)+1)=((j+1:Nat):Int):=by rw[IntWalk.i64_in _ (by omega)];omega
         have q0:=hO.out.ptr
         obtain⟨g',hg',-,-,hgf,-,-⟩:=own_block (OMem.fW hO.out.mem) (by rw[hL];omega)
         obtain rfl:g'=g:=by rw[HG.out] at hg';injection hg' with hg';injection hg' with hg';exact hg'.symm
         have hfg:=hgf j
         have c3:=(hO.out.mem.fld ⟨3,78,1,S3.W.1,(fillM M2 kind sz k).W.length,S3.W.2,wcells (fillM M2 kind sz k).W⟩ (by simp[memFlds])).1
         have hcell:=((row_rsl (OMem.fW hO.out.mem)).1)
         rw[HG.out] at hcell
         replace hcell:=hcell.at_ (wcells_at (fillM M2 kind sz k).W j (by rw[hL];exact hjl))
         simp only[Nat.zero_add] at hcell
         simp only[Fld.val,HG.out,hL] at c3
         obtain⟨z1,z2⟩:=hO.out.setW HG.out j (by rw[hL];exact hjl) (fillW kind)
         have hnx:{fillM M2 kind sz k with W:=(fillM M2 kind sz k).W.set j (fillW kind)}=fillM M2 kind sz (k+1):=by
          rw[hj.out,HA.out]
          have:=HN.out
          subst this
          exact fillM_next _ _ _ _ (by rw[HA2.out,←HA.out];omega)
         rw[hnx] at z1
         have HZ1:=Lib.hid z1
         have HZ2:=Lib.hid (hS.out.trans_ z2)
         have HJ:=Lib.hid hj.out
         generalize (fillM M2 kind sz k).W.getD j 0=xx at *
         clear z1 z2 hnx hg' hgf hL hj
         go_wp2
         go_roundw
         case rel=>exact⟨k+1,j+1,by have:=HJ.out;unfold Hid;omega,by omega,by go_num,HZ1.out,HZ2.out⟩
         case measure=>have:=HJ.out;simp[intOf];omega
        ·have hltz:¬(j:Int)<(A:Int)+n:=by have:=HN.out;have:=hj.out;omega
         have hk3:k=sz:=by omega
         rw[hk3] at hO
         have HFIN:=Lib.hid (obj_fin (E:=E) HN.out HM1.out HM2.out HC1.out HC2.out HC3.out HA.out hO.out hS.out)
         clear hL hk3 hO hS hj
         go_wp2
         go_ret2
         exact HFIN.out
end
section
variable {M:Mem} {ten nx:Int}
theorem objC_zero {sz:Nat} (h:objC M ten sz=0):o1C M (1+sz)=0∧o2C (o1M M ten (1+sz)) (1+sz)=0∧o3C (midM M ten sz) (1+sz)=0:=by
 have h0:=h
 unfold objC at h
 split at h
 ·rename_i h1
  split at h
  ·rename_i h2
   exact⟨h1,h2,by unfold midM;exact h⟩
  ·rename_i h2;exact absurd h h2
 ·rename_i h1;exact absurd h h1
theorem fillW_in (kind:Int):0≤fillW kind∧fillW kind≤18446744073709551615:=by unfold fillW;split<;>omega
theorem fillW_fld (kind:Int) (h:rawB kind=false):fldB [] (fillW kind)=true∧kindW (fillW kind)≠0:=by
 unfold fillW;rw[h]
 decide
structure NewO (M N:Mem) (kind:Int) (sz a:Nat):Prop where
 good:∃ lN lO,Good N lN lO∧a∈lN++lO
 hd:wat N.W a=headW kind 0 0 sz
 len:a+1+sz≤N.W.length
 fld:∀ j,j<sz→wat N.W (a+1+j)=fillW kind
theorem o3M_inv (h:HInv M nx) (kind:Int) (sz:Nat) (hk:0≤kind∧kind≤255) (hz:sz≤4096) (hc:o3C M (1+sz)=0) :
  HInv (o3M M kind (List.replicate sz (fillW kind))) nx∧SameH M (o3M M kind (List.replicate sz (fillW kind)))∧NewO M (o3M M kind (List.replicate sz (fillW kind))) kind sz (atM M (1+sz)):=by
 have hs:=(good_parts (chk_zero h.chk).1).1
 have h1:=hs.h1;have h2:=hs.t2;have h5:=hs.base;have h7:=hs.t1;have h8:=hs.w;have h9:=hs.p2;have h10:=hs.p1;have h11:=hs.o1
 have hl:(List.replicate sz (fillW kind)).length=sz:=by simp
 have hu:∀ x∈List.replicate sz (fillW kind),0≤x∧x≤18446744073709551615:=fun x hx=>by rw[(List.mem_replicate.1 hx).2];exact fillW_in kind
 have hf:rawB kind=false→∀ x∈List.replicate sz (fillW kind),fldB [] x=true∧kindW x≠0:=fun hr x hx=>by rw[(List.mem_replicate.1 hx).2];exact fillW_fld kind hr
 have hgt:∀ j,j<sz→(List.replicate sz (fillW kind)).getD j 0=fillW kind:=fun j hj=>by rw[List.getD_eq_getElem?_getD,List.getElem?_replicate,if_pos hj];rfl
 unfold o3M atM
 rw[hl]
 by_cases q:M.top+(1+(sz:Int))≤M.half
 ·rw[if_pos q,if_pos q]
  have hw:M.base+M.top.toNat+1+(List.replicate sz (fillW kind)).length≤M.W.length:=by rw[hl];omega
  obtain⟨g1,g2,lN,lO,g3,g4⟩:=newNM_inv h kind (List.replicate sz (fillW kind)) hk (by rw[hl];exact hz) (by rw[hl];omega) hu fun hr x hx=>(hf hr x hx).1
  refine⟨g1,g2,?_⟩
  constructor
  ·exact⟨lN,lO,g3,g4⟩
  ·have:=newW_hd M.W (M.base+M.top.toNat) kind _ hw
   rw[hl] at this;exact this
  ·show _≤(newW M.W (M.base+M.top.toNat) kind _).length
   rw[newW_len _ _ _ _ hw];rw[hl] at hw;exact hw
  ·intro j hj;exact (newW_fld M.W (M.base+M.top.toNat) kind _ hw j (by rw[hl];exact hj)).trans (hgt j hj)
 ·rw[if_neg q,if_neg q]
  have q2:1+(sz:Int)≤M.old-M.oldTop:=by
   unfold o3C at hc
   rw[if_neg q] at hc
   split at hc
   ·assumption
   ·omega
  have hw:(2*M.half).toNat+M.oldTop.toNat+1+(List.replicate sz (fillW kind)).length≤M.W.length:=by rw[hl];omega
  obtain⟨g1,g2,lN,lO,g3,g4⟩:=newOM_inv h kind (List.replicate sz (fillW kind)) hk (by rw[hl];exact hz) (by rw[hl];omega) hu hf
  refine⟨g1,g2,?_⟩
  constructor
  ·exact⟨lN,lO,g3,g4⟩
  ·have:=newW_hd M.W ((2*M.half).toNat+M.oldTop.toNat) kind _ hw
   rw[hl] at this;exact this
  ·show _≤(newW M.W ((2*M.half).toNat+M.oldTop.toNat) kind _).length
   rw[newW_len _ _ _ _ hw];rw[hl] at hw;exact hw
  ·intro j hj;exact (newW_fld M.W ((2*M.half).toNat+M.oldTop.toNat) kind _ hw j (by rw[hl];exact hj)).trans (hgt j hj)
theorem objM_inv (ht:0≤ten∧ten≤15) (h:HInv M nx) (kind:Int) (sz:Nat) (hk:0≤kind∧kind≤255) (hz:sz≤4096) :
  HInv (objM M ten kind sz) nx∧SameH M (objM M ten kind sz)∧(objC M ten sz=0→∃ a:Nat,objPl M ten sz=(a:Int)∧NewO (midM M ten sz) (objM M ten kind sz) kind sz a):=by
 obtain⟨m1,m2⟩:=mid_inv (sz:=sz) ht h
 by_cases hc:objC M ten sz=0
 ·obtain⟨c1,c2,c3⟩:=objC_zero hc
  obtain⟨r1,r2,r3⟩:=obj_ok (ten:=ten) (kind:=kind) (sz:=sz) c1 c2 c3
  obtain⟨g1,g2,g3⟩:=o3M_inv m1 kind sz hk hz c3
  rw[r2]
  exact⟨g1,m2.trans g2,fun _=>⟨_,r3,g3⟩⟩
 ·refine⟨?_,?_,fun q=>absurd q hc⟩
  ·unfold objM
   rw[if_neg hc]
   split
   ·exact m1
   ·exact (o1_inv ht h).1
  ·unfold objM
   rw[if_neg hc]
   split
   ·exact m2
   ·exact (o1_inv ht h).2
end
def Ideal.new (I:Ideal) (kind:Int) (us:List Int):Ideal:={I with V:=I.V++headW kind 0 0 us.length::us,P:=I.P++[I.V.length]}
def newD (I:Ideal) (D:Nat→Prop) (a:Nat):Prop:=D a∨a=I.V.length
def newF (I:Ideal) (p:Nat) (f:Nat→Nat) (a:Nat):Nat:=if a=I.V.length then p else f a
section
variable {I:Ideal} {M:Mem} {D:Nat→Prop} {f:Nat→Nat}
theorem new_old (I:Ideal) (kind:Int) (us:List Int) {i:Nat} (h:i<I.V.length):wat (I.new kind us).V i=wat I.V i:=by
 unfold wat Ideal.new
 simp only[List.getD_eq_getElem?_getD,List.getElem?_append_left h]
theorem new_hd (I:Ideal) (kind:Int) (us:List Int):wat (I.new kind us).V I.V.length=headW kind 0 0 us.length:=by
 unfold wat Ideal.new
 simp[List.getD_eq_getElem?_getD]
theorem new_fld (I:Ideal) (kind:Int) (us:List Int) (j:Nat):wat (I.new kind us).V (I.V.length+1+j)=us.getD j 0:=by
 unfold wat Ideal.new
 simp only[List.getD_eq_getElem?_getD]
 rw[List.getElem?_append_right (by omega),show I.V.length+1+j-I.V.length=j+1 by omega]
 rfl
theorem Rep.new (h:Rep I M D f) {N:Mem} {p:Nat} {kind:Int} {us:List Int} (hk:0≤kind∧kind≤255) (hz:us.length≤4096)
  (hW:∀ a,D a→∀ i,f a≤i→i<f a+1+szW I.V a→wat N.W i=wat M.W i)
  (hobj:∀ b∈(objsAll M).map (·.a),b∈(objsAll N).map (·.a)) (hpo:p∈(objsAll N).map (·.a)) (hpn:¬p∈(objsAll M).map (·.a))
  (hd:wat N.W p=headW kind 0 0 us.length) (hr:N.roots=M.roots) (hwk:N.weak=M.weak) (hi:N.ids=M.ids)
  (hf:rawB kind=false→∀ j,j<us.length→Cor f D (us.getD j 0) (wat N.W (p+1+j)))
  (hraw:rawB kind=true→∀ j,j<us.length→wat N.W (p+1+j)=us.getD j 0):Rep (I.new kind us) N (newD I D) (newF I p f):=by
 have hlt:∀ a,D a→a<I.V.length:=fun a ha=>by have:=h.dom a ha;omega
 have hcor:∀ {u v:Int},Cor f D u v→Cor (newF I p f) (newD I D) u v:=fun hc=>hc.mono fun a ha=>⟨Or.inl ha,by unfold newF;rw[if_neg (by have:=hlt a ha;omega)]⟩
 have hF:∀ a,D a→newF I p f a=f a:=fun a ha=>by unfold newF;rw[if_neg (by have:=hlt a ha;omega)]
 have hP:newF I p f I.V.length=p:=by unfold newF;rw[if_pos rfl]
 obtain⟨d1,d2,d3,d4,d5⟩:=headW_hd kind 0 0 (us.length:Int) hk (by omega) (by omega) ⟨by omega,by omega⟩
 have hw:∀ a,D a→wat (I.new kind us).V a=wat I.V a:=fun a ha=>new_old I kind us (hlt a ha)
 have hs:∀ a,D a→szW (I.new kind us).V a=szW I.V a:=fun a ha=>by unfold szW;rw[hw a ha]
 have hsn:szW (I.new kind us).V I.V.length=us.length:=by unfold szW;rw[new_hd,d5];omega
 have hWa:∀ a,D a→wat N.W (f a)=wat M.W (f a):=fun a ha=>hW a ha (f a) (Nat.le_refl _) (by omega)
 have hlen:(I.new kind us).V.length=I.V.length+1+us.length:=by unfold Ideal.new;simp;omega
 refine⟨⟨fun a b ha hb e=>?_,fun a ha=>?_,fun a ha=>?_,fun a ha hq k hk2=>?_,fun a ha hq k hk2=>?_⟩,fun a ha=>?_,fun a b ha hb hab=>?_,fun a ha=>?_,by rw[hr];exact h.lenR,fun i hi2=>by rw[hr];exact hcor (h.roots i hi2),by rw[hwk];exact h.lenK,fun i hi2=>?_,fun u s hu a ha hd2=>?_,fun v s hv=>?_,fun i hi2=>?_,fun u s hu=>?_,fun a ha=>?_⟩
 ·rcases ha with ha|rfl<;>rcases hb with hb|rfl
  ·rw[hF a ha,hF b hb] at e;exact h.morph.inj a b ha hb e
  ·rw[hF a ha,hP] at e;exact absurd (h.obj a ha) (by rw[e];exact hpn)
  ·rw[hF b hb,hP] at e;exact absurd (h.obj b hb) (by rw[←e];exact hpn)
  ·rfl
 ·rcases ha with ha|rfl
  ·rw[hF a ha,hWa a ha,hw a ha];exact h.morph.kind a ha
  ·rw[hP,hd,new_hd]
 ·rcases ha with ha|rfl
  ·rw[hF a ha,hWa a ha,hw a ha];exact h.morph.size a ha
  ·rw[hP,hd,new_hd]
 ·rcases ha with ha|rfl
  ·rw[hs a ha] at hk2
   rw[hw a ha] at hq
   have hl:=h.dom a ha
   rw[hF a ha,new_old I kind us (by omega),hW a ha _ (by omega) (by omega)]
   exact hcor (h.morph.fld a ha hq k hk2)
  ·rw[hsn] at hk2
   rw[new_hd,d2] at hq
   rw[hP,new_fld]
   exact hcor (hf hq k hk2)
 ·rcases ha with ha|rfl
  ·rw[hs a ha] at hk2
   rw[hw a ha] at hq
   have hl:=h.dom a ha
   rw[hF a ha,new_old I kind us (by omega),hW a ha _ (by omega) (by omega)]
   exact h.morph.raw a ha hq k hk2
  ·rw[hsn] at hk2
   rw[new_hd,d2] at hq
   rw[hP,new_fld]
   exact hraw hq k hk2
 ·rw[hlen]
  rcases ha with ha|rfl
  ·rw[hs a ha];have:=h.dom a ha;omega
  ·rw[hsn];omega
 ·rcases ha with ha|rfl
  ·rw[hs a ha]
   rcases hb with hb|rfl
   ·exact h.apart a b ha hb hab
   ·exact h.dom a ha
  ·rcases hb with hb|rfl
   ·have:=hlt b hb;omega
   ·omega
 ·rcases ha with ha|rfl
  ·rw[hF a ha];exact hobj _ (h.obj a ha)
  ·rw[hP];exact hpo
 ·rw[hwk]
  rcases h.weak i hi2 with c|⟨c1,a,c2,c3⟩
  ·exact Or.inl (hcor c)
  ·exact Or.inr ⟨c1,a,c2,fun q=>by
    rcases q with q|q
    ·exact c3 q
    ·have:=h.wkV i hi2;rw[c2] at this;omega⟩
 ·rw[hi]
  rcases hd2 with q|q
  ·obtain⟨v,c1,c2⟩:=h.ids1 u s hu a ha q
   exact⟨v,hcor c1,c2⟩
  ·have:=h.idV u s hu;rw[ha] at this;omega
 ·rw[hi] at hv
  obtain⟨u,c1,c2⟩:=h.ids2 v s hv
  exact⟨u,c1,hcor c2⟩
 ·rw[hlen];have:=h.wkV i hi2;show ptsW (I.weak.getD i 0)<_;omega
 ·rw[hlen];have:=h.idV u s hu;omega
 ·show a∈I.P++[I.V.length]
  rcases ha with ha|rfl
  ·exact List.mem_append.2 (Or.inl (h.nodes a ha))
  ·simp
end
section
variable {I:Ideal} {M:Mem} {D:Nat→Prop} {f:Nat→Nat} {ten nx:Int}
def Holds (I:Ideal) (M:Mem):Prop:=∃ D f,Rep I M D f
theorem Holds.moved {N:Mem} {go:Int→Int × Bool} {E:Nat→Prop} {g:Nat→Nat} (h:Holds I M) (hm:Moved M N go E g):Holds I N:=by
 obtain⟨D,f,h⟩:=h
 exact⟨_,_,h.moved hm⟩
theorem Holds.major (h:Holds I M) (hI:HInv M nx):Holds I (majorH M):=by
 unfold majorH
 split
 ·rename_i hl;exact h.moved (major_moved (hI.full hl))
 ·exact h
theorem Holds.minor (ht:0≤ten∧ten≤15) (h:Holds I M) (hI:HInv M nx):Holds I (minorH M ten):=by
 unfold minorH
 split
 ·rename_i hl;exact h.moved (minor_moved ⟨hI.ok,hI.chk,ht,by assumption⟩)
 ·exact h.major hI
theorem Holds.live (h:Holds I M) (hI:HInv M nx):liveM M=liveI I:=by
 obtain⟨D,f,h⟩:=h
 exact h.live (chk_zero hI.chk).1
theorem Holds.mid (ht:0≤ten∧ten≤15) (h:Holds I M) (hI:HInv M nx) (sz:Nat):Holds I (midM M ten sz):=by
 have h1:Holds I (o1M M ten (1+sz)):=by
  unfold o1M
  split
  ·exact h.minor ht hI
  ·exact h
 unfold midM o2M
 split
 ·exact h1.major (o1_inv ht hI).1
 ·exact h1
theorem fill_cor (kind:Int) (f:Nat→Nat) (D:Nat→Prop):Cor f D (fillW kind) (fillW kind):=by
 left
 refine⟨?_,rfl⟩
 unfold fillW
 split<;>decide
theorem Rep.o3 (h:Rep I M D f) (hI:HInv M nx) (kind:Int) (sz:Nat) (hk:0≤kind∧kind≤255) (hz:sz≤4096) (hc:o3C M (1+sz)=0) :
  Rep (I.new kind (List.replicate sz (fillW kind))) (o3M M kind (List.replicate sz (fillW kind))) (newD I D) (newF I (atM M (1+sz)) f):=by
 obtain⟨g1,g2,g3⟩:=o3M_inv hI kind sz hk hz hc
 obtain⟨lN,lO,hg⟩:=good_of hI.chk
 have hs:=hg.shp
 have h1:=hs.h1;have h2:=hs.t2;have h5:=hs.base;have h7:=hs.t1;have h8:=hs.w;have h9:=hs.p2;have h10:=hs.p1;have h11:=hs.o1
 have hl:(List.replicate sz (fillW kind)).length=sz:=by simp
 have hgt:∀ j,j<sz→(List.replicate sz (fillW kind)).getD j 0=fillW kind:=fun j hj=>by rw[List.getD_eq_getElem?_getD,List.getElem?_replicate,if_pos hj];rfl
 have hall:(objsAll M).map (·.a)=lN++lO:=by
  rw[hg.all,List.map_map];exact (List.map_congr_left fun x _=>rfl).trans (List.map_id _)
 have hob:∀ a,D a→f a∈lN++lO:=fun a ha=>by rw[←hall];exact h.obj a ha
 have hsz:∀ a,D a→szW M.W (f a)=szW I.V a:=fun a ha=>by unfold szW;rw[h.morph.size a ha]
 have rn:=fun b hb=>hg.n.mem b hb
 have ro:=fun b hb=>hg.o.mem b hb
 have hfl:rawB kind=false→∀ x∈List.replicate sz (fillW kind),fldB [] x=true∧kindW x≠0:=fun hr x hx=>by rw[(List.mem_replicate.1 hx).2];exact fillW_fld kind hr
 have hds:=g3.hd
 have hfs:=g3.fld
 unfold o3M atM at hds hfs ⊢
 rw[hl] at hds hfs ⊢
 by_cases q:M.top+(1+(sz:Int))≤M.half
 ·simp only[if_pos q] at hds hfs ⊢
  have hN:=hg.newN kind (List.replicate sz (fillW kind)) hk (by rw[hl];exact hz) (by rw[hl];omega) fun hr x hx=>fldB_sub (by simp) (hfl hr x hx).1
  have hallN:(objsAll (newNM M kind (List.replicate sz (fillW kind)))).map (·.a)=(lN++[M.base+M.top.toNat])++lO:=by
   rw[hN.all,List.map_map];exact (List.map_congr_left fun x _=>rfl).trans (List.map_id _)
  have hw:M.base+M.top.toNat+1+(List.replicate sz (fillW kind)).length≤M.W.length:=by rw[hl];omega
  refine h.new hk (by rw[hl];exact hz) (fun a ha i i1 i2=>?_) (fun b hb=>?_) (by rw[hallN];simp) ?_ (by rw[hl];exact hds) rfl rfl rfl (fun hr j hj=>?_) (fun hr j hj=>?_)
  ·refine newW_out _ _ _ _ hw i ?_
   rw[hl]
   have hm:=hob a ha
   have hz2:=hsz a ha
   rcases List.mem_append.1 hm with hm|hm
   ·have:=rn _ hm;left;omega
   ·have:=ro _ hm;right;omega
  ·rw[hall] at hb
   rw[hallN]
   simp only[List.mem_append,List.mem_singleton] at hb ⊢
   rcases hb with hb|hb
   ·exact Or.inl (Or.inl hb)
   ·exact Or.inr hb
  ·rw[hall]
   intro hm
   rcases List.mem_append.1 hm with hm|hm
   ·have:=rn _ hm;omega
   ·have:=ro _ hm;omega
  ·rw[hl] at hj;rw[hgt j hj,hfs j hj];exact fill_cor kind f D
  ·rw[hl] at hj;rw[hgt j hj,hfs j hj]
 ·simp only[if_neg q] at hds hfs ⊢
  have q2:1+(sz:Int)≤M.old-M.oldTop:=by
   unfold o3C at hc
   rw[if_neg q] at hc
   split at hc
   ·assumption
   ·omega
  have hN:=hg.newO kind (List.replicate sz (fillW kind)) hk (by rw[hl];exact hz) (by rw[hl];omega) fun hr x hx=>⟨fldB_sub (by simp) (hfl hr x hx).1,by unfold youngB;simp[(hfl hr x hx).2]⟩
  have hallN:(objsAll (newOM M kind (List.replicate sz (fillW kind)))).map (·.a)=lN++(lO++[(2*M.half).toNat+M.oldTop.toNat]):=by
   rw[hN.all,List.map_map];exact (List.map_congr_left fun x _=>rfl).trans (List.map_id _)
  have hw:(2*M.half).toNat+M.oldTop.toNat+1+(List.replicate sz (fillW kind)).length≤M.W.length:=by rw[hl];omega
  refine h.new hk (by rw[hl];exact hz) (fun a ha i i1 i2=>?_) (fun b hb=>?_) (by rw[hallN];simp) ?_ (by rw[hl];exact hds) rfl rfl rfl (fun hr j hj=>?_) (fun hr j hj=>?_)
  ·refine newW_out _ _ _ _ hw i ?_
   rw[hl]
   have hm:=hob a ha
   have hz2:=hsz a ha
   rcases List.mem_append.1 hm with hm|hm
   ·have:=rn _ hm;left;omega
   ·have:=ro _ hm;left;omega
  ·rw[hall] at hb
   rw[hallN]
   simp only[List.mem_append,List.mem_singleton] at hb ⊢
   rcases hb with hb|hb
   ·exact Or.inl hb
   ·exact Or.inr (Or.inl hb)
  ·rw[hall]
   intro hm
   rcases List.mem_append.1 hm with hm|hm
   ·have:=rn _ hm;omega
   ·have:=ro _ hm;omega
  ·rw[hl] at hj;rw[hgt j hj,hfs j hj];exact fill_cor kind f D
  ·rw[hl] at hj;rw[hgt j hj,hfs j hj]
theorem Holds.obj (ht:0≤ten∧ten≤15) (h:Holds I M) (hI:HInv M nx) (kind:Int) (sz:Nat) (hk:0≤kind∧kind≤255) (hz:sz≤4096) (hc:objC M ten sz=0) :
  ∃ D f,Rep (I.new kind (List.replicate sz (fillW kind))) (objM M ten kind sz) (newD I D) f∧objPl M ten sz=(f I.V.length:Int):=by
 obtain⟨m1,m2⟩:=mid_inv (sz:=sz) ht hI
 obtain⟨c1,c2,c3⟩:=objC_zero hc
 obtain⟨r1,r2,r3⟩:=obj_ok (ten:=ten) (kind:=kind) (sz:=sz) c1 c2 c3
 obtain⟨D,f,hm⟩:=h.mid ht hI sz
 refine⟨D,_,by rw[r2];exact hm.o3 m1 kind sz hk hz c3,?_⟩
 rw[r3]
 unfold newF
 rw[if_pos rfl]
end
end Go.Proofs.YtelhoppfidibiaaGreatDoor
