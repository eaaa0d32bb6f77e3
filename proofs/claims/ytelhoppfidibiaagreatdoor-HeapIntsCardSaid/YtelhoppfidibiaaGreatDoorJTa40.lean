/- The walks of heap's Identity and Serial. -/
import Derived.Test.YtelhoppfidibiaaGreatDoorJTa38
import Derived.Test.YtelhoppfidibiaaGreatDoorJTa39
import Derived.Test.YtelhoppfidibiaaGreatDoorJTa15
import Derived.Test.YtelhoppfidibiaaGreatDoorJTa01
set_option linter.unusedSectionVars false
set_option linter.unusedSimpArgs false
set_option linter.unusedVariables false
set_option maxHeartbeats 4000000
set_option maxRecDepth 100000
namespace Go.Proofs.YtelhoppfidibiaaGreatDoor
open Go.RowKit
theorem idC_walk (W:World) (xb:Nat) (u a s:Int) (h:W.cell? ⟨xb,0,none⟩=some (.int .u64 u)) :
  Calls Tryz.prog 107 #[.agg #[.int .u64 a,.int .i64 s],.pointer (some ⟨xb,0,none⟩)] W fun e w'=>e=.returned (.bool (a==u))∧Ext W w':=by
 have h2:∀ o,(W.alloc o).cell? ⟨xb,0,none⟩=some (.int .u64 u):=fun o=>((Ext.refl W).alloc_ o).cell_ h
 cases hq:(a==u) with
 | true =>
  have e:a=u:=by simpa using hq
  subst e
  go_enter Tryz.func107,Tryz.ntmps107
  go_wp2
  go_ret
  exact⟨rfl,(Ext.refl _).alloc_ _⟩
 | false =>
  have e:¬a=u:=by simpa using hq
  go_enter Tryz.func107,Tryz.ntmps107
  go_wp2
  go_ret
  exact⟨rfl,(Ext.refl _).alloc_ _⟩
def IdIdx (ids:List (Int × Int)) (u n:Int):Prop:=(n=-1∧∀ x∈ids,x.1≠u)∨∃ i:Nat,n=(i:Int)∧i<ids.length∧(ids.getD i (0,0)).1=u
theorem indexID_walk (xb:Nat) (u:Int) (ia:Option Addr) (c:Nat) (ids:List (Int × Int)) (w:World) (hz:ids.length≤9223372036854775807) (hR:RSl w ia (icells ids)) (hx:w.cell? ⟨xb,0,none⟩=some (.int .u64 u)) :
  Calls Tryz.prog 106 #[.slice ia ids.length c,.func (.func 107) #[] #[.pointer (some ⟨xb,0,none⟩)]] w fun e w'=>∃ n:Int,e=.returned (.int .i64 n)∧IdIdx ids u n∧Ext w w':=by
 have HR:=Lib.hid hR
 have HX:=Lib.hid hx
 clear hR hx
 go_enter Tryz.func106,Tryz.ntmps106
 go_wp2
 go_loopw [5,8] (fun _ i wr=>∃ k:Nat,k≤ids.length∧i=.int .i64 (k:Int)∧Hid (Ext w wr)∧Hid (∀ j,j<k→(ids.getD j (0,0)).1≠u))
  (fun _ i _=>ids.length-(intOf i).toNat)
 case atStart=>exact⟨0,Nat.zero_le _,rfl,Ext.refl w,fun j hj=>absurd hj (Nat.not_lt_zero _)⟩
 case round =>
  obtain⟨k,hk,rfl,hE,hA⟩:=hrel
  by_cases hlt:k<ids.length
  ·obtain⟨p0,p1⟩:=icells_at ids k hlt
   obtain⟨ib,io,hIa,c0⟩:=(HR.out.ext hE.out) _ _ p0
   have hRs:=HR.out.ext hE.out
   rw[hIa] at hRs
   have c1:=hRs.at_ p1
   rw[←Nat.add_assoc] at c1
   obtain rfl:ia=some ⟨ib,io,none⟩:=hIa
   have hltz:(k:Int)<(ids.length:Int):=by omega
   have hgd:ids.getD k (0,0)=ids[k]:=by rw[List.getD_eq_getElem?_getD,List.getElem?_eq_getElem hlt];rfl
   have HGD:=Lib.hid hgd
   have hcall:=idC_walk wr xb u ids[k].1 ids[k].2 (hE.out.cell_ HX.out)
   generalize ids[k]=x at *
   have hibz:=cell_lt c0
   simp only at hibz
   clear hRs p0 p1 hgd
   cases hq:(x.1==u) with
   | true =>
    have HQ:Hid (x.1=u):=by simpa [Hid] using hq
    rw[hq] at hcall
    clear hq
    have HCL:=Lib.hid hcall
    clear hcall
    go_wp2_with (go_at_call 107;refine HCL.out.mono ?_;rintro e w' ⟨rfl,hb'⟩;have HB':Hid (Ext w w'):=hE.out.trans_ hb';clear hb')
    go_ret
    exact⟨_,rfl,Or.inr ⟨k,rfl,hlt,by rw[HGD.out];exact HQ.out⟩,HB'.out⟩
   | false =>
    have HQ:Hid (x.1≠u):=by simpa [Hid] using hq
    rw[hq] at hcall
    clear hq
    have HCL:=Lib.hid hcall
    clear hcall
    go_wp2_with (go_at_call 107;refine HCL.out.mono ?_;rintro e w' ⟨rfl,hb'⟩;have HB':Hid (Ext w w'):=hE.out.trans_ hb';clear hb')
    go_roundw
    case rel=>exact⟨k+1,by omega,by go_num,HB'.out,fun j hj=>by
     by_cases e:j=k
     ·subst e;rw[HGD.out];exact HQ.out
     ·exact hA.out j (by omega)⟩
    case measure=>simp[intOf];omega
  ·have hltz:¬(k:Int)<(ids.length:Int):=by omega
   go_wp2
   go_ret
   refine⟨_,rfl,Or.inl ⟨rfl,fun x hx=>?_⟩,hE.out⟩
   obtain⟨j,hj,rfl⟩:=List.mem_iff_getElem.1 hx
   have:=hA.out j (by omega)
   rw[List.getD_eq_getElem?_getD,List.getElem?_eq_getElem hj] at this
   exact this
section
variable {B hb b:Nat} {M:Mem} {S:Sls} {E:Nat→Addr} {ten nx:Int}
theorem OHeap.setNext {w:World} (h:OHeap w B hb b M S ten nx) (x:Int):OHeap (w.setCell ⟨hb,2,none⟩ (.int .i64 x)) B hb b M S ten x∧HStep hb b w S (w.setCell ⟨hb,2,none⟩ (.int .i64 x)) S:=by
 have hm:OMem (w.setCell ⟨hb,2,none⟩ (.int .i64 x)) B b 140 M S:=OM.kept h.mem fun k hk ho=>by
  refine heap_setCell_other w ⟨hb,2,none⟩ k _ (fun e=>?_)
  have e2:k=hb:=e
  subst e2
  rcases ho with q|⟨f,hf,q⟩
  ·exact h.ne (Or.inl q)
  ·exact h.ne (OMem.own_of h.mem hf q)
 refine⟨⟨hm,h.hB,blk_set h.blk,?_,?_,cell_set_same h.nxt,h.ne⟩,⟨⟨rfl,rfl,rfl,by simp[World.setCell],fun k hk hn=>heap_setCell_other w ⟨hb,2,none⟩ k _ (fun e=>hn (Or.inl e))⟩,fun k hk=>Or.inl hk⟩⟩
 ·rw[cell_set_off (by decide)];exact h.ptr
 ·rw[cell_set_off (by decide)];exact h.tn
def IdPost (w:World) (B hb b:Nat) (M:Mem) (S:Sls) (ten nx u:Int) (e:Ending) (w':World):Prop :=
 (∃ i:Nat,i<M.ids.length∧(M.ids.getD i (0,0)).1=u∧e=.returned (.int .i64 (M.ids.getD i (0,0)).2)∧Ext w w') ∨
 ((∀ x∈M.ids,x.1≠u)∧∃ S',e=.returned (.int .i64 nx)∧OHeap w' B hb b {M with ids:=M.ids++[(u,nx)]} S' ten (nx+1)∧HStep hb b w S w' S')
theorem identity_walk (w:World) (hH:OHeap w B hb b M S ten nx) (hok:M.Ok) (hn0:0≤nx∧nx≤1000000000) (hl:M.ids.length≤1000000) (u:Int) :
  Calls Tryz.prog 48 #[.pointer (some ⟨hb,0,none⟩),.int .u64 u] w (IdPost w B hb b M S ten nx u):=by
 have hM0:=hH.mem.mem hok
 have HM:=Lib.hid hM0
 have HH:=Lib.hid hH
 have q0:=hH.ptr
 have c9:=hM0.ids
 simp only[Nat.zero_add] at c9
 have hQ0:=Lib.hid q0
 have hC9:=Lib.hid c9
 obtain⟨i0,hi0,hz0,hz1,hz2⟩:=info_parts infoM
 have hbl:=OM.lt hH.mem
 have hhl:=hH.lt
 clear hH
 go_enter Tryz.func48,Tryz.ntmps48
 go_upto_region 2 with (go_at_call 106;refine (indexID_walk w.heap.size u S.I.1 S.I.2 M.ids _ hM0.ok.lenI (hM0.rI.ext ((Ext.refl w).alloc_ _)) (by rw[World.cell?,heap_alloc_new];rfl)).mono ?_;rintro e w1 ⟨n,rfl,hn,hq⟩;have HN:=Lib.hid hn;have HX1:Hid (Ext w w1):=((Ext.refl w).alloc_ _).trans_ hq;have HBX:Hid (w1.cell? ⟨w.heap.size,0,none⟩=some (.int .u64 u)):=hq.cell_ (by rw[World.cell?,heap_alloc_new];rfl);clear hn hq)
 have h2:=HN.out
 clear hM0
 rcases h2 with⟨rfl,hall⟩|⟨i,rfl,hil,hiu⟩
 ·have HALL:=Lib.hid hall
  have d0:=HX1.out.cell_ hQ0.out
  have d9:=HX1.out.cell_ hC9.out
  clear q0 c9 hall
  go_upto_region 4 with fail
  refine named_world' (fun wD hwD=>?_)
  have HXD:Hid (Ext w wD):=by rw[hwD];exact HX1.out
  have hBX:wD.cell? ⟨w.heap.size,0,none⟩=some (.int .u64 u):=by rw[hwD];exact HBX.out
  clear hwD
  have j1:=HXD.out.cell_ hQ0.out
  have j2:=HXD.out.cell_ hC9.out
  have j3:=(HH.out.ext HXD.out).nxt
  have HHD:=Lib.hid (HH.out.ext HXD.out)
  have HSD:Hid (HStep hb b w S wD S):=HStep.of_ext HXD.out
  have j2a:=fun o=>(Ext.alloc_ (Ext.refl wD) o).cell_ j2
  clear d0 d9
  refine wp_region_held_drew (S:=fun W=>W.cell? ⟨hb,0,none⟩=some (.pointer (some ⟨b,0,none⟩))∧W.cell? ⟨hb,2,none⟩=some (.int .i64 nx)∧W.cell? ⟨w.heap.size,0,none⟩=some (.int .u64 u)) (by kernel_rfl) ?_ (fun hHeld=>?_)
  ·exact⟨j1,j3,hBX⟩
  refine tk 0 ⟨some 25,_,_,_,_,_⟩ ?_ rfl ?_ ?_
  rotate_left
  ·(intro w hSw;(try dsimp only at hSw);go_simp;try with_reducible rfl)
  try simp only[tkS]
  refine tk 1 ⟨some 26,_,_,_,_,_⟩ ?_ rfl ?_ ?_
  rotate_left
  ·(intro w hSw;(try dsimp only at hSw);go_simp;try with_reducible rfl)
  try simp only[tkS]
  refine tk 2 ⟨some 27,_,_,_,_,_⟩ ?_ rfl ?_ ?_
  rotate_left
  ·(intro w hSw;(try dsimp only at hSw);go_simp;try with_reducible rfl)
  try simp only[tkS]
  refine tk 3 ⟨some 28,_,_,_,_,_⟩ ?_ rfl ?_ ?_
  rotate_left
  ·(intro w hSw;(try dsimp only at hSw);go_simp;try with_reducible rfl)
  try simp only[tkS]
  refine tk 4 ⟨some 29,_,_,_,_,_⟩ ?_ rfl ?_ ?_
  rotate_left
  ·(intro w hSw;(try dsimp only at hSw);go_simp;try with_reducible rfl)
  try simp only[tkS]
  refine tk 5 ⟨some 30,_,_,_,_,_⟩ ?_ rfl ?_ ?_
  rotate_left
  ·(intro w hSw;(try dsimp only at hSw);go_simp;try with_reducible rfl)
  try simp only[tkS]
  refine tk 6 ⟨some 31,_,_,_,_,_⟩ ?_ rfl ?_ ?_
  rotate_left
  ·(intro w hSw;(try dsimp only at hSw);go_simp;try with_reducible rfl)
  try simp only[tkS]
  refine tk 7 ⟨some 32,_,_,_,_,_⟩ ?_ rfl ?_ ?_
  rotate_left
  ·(intro w hSw;(try dsimp only at hSw);go_simp;try with_reducible rfl)
  try simp only[tkS]
  refine tk 8 ⟨some 33,_,_,_,_,_⟩ ?_ rfl ?_ ?_
  rotate_left
  ·(intro w hSw;(try dsimp only at hSw);go_simp;try with_reducible rfl)
  try simp only[tkS]
  refine tk 9 ⟨some 34,_,_,_,_,_⟩ ?_ rfl ?_ ?_
  rotate_left
  ·(intro w hSw;(try dsimp only at hSw);go_simp;try with_reducible rfl)
  try simp only[tkS]
  refine tk 11 ⟨some 36,_,_,_,_,_⟩ ?_ rfl ?_ ?_
  rotate_left
  ·(intro w hSw;(try dsimp only at hSw);go_simp;try with_reducible rfl)
  try simp only[tkS]
  refine tk 12 ⟨some 37,_,_,_,_,_⟩ ?_ rfl ?_ ?_
  rotate_left
  ·(intro w hSw;(try dsimp only at hSw);go_simp;try with_reducible rfl)
  try simp only[tkS]
  refine tk 13 ⟨some 38,_,_,_,_,_⟩ ?_ rfl ?_ ?_
  rotate_left
  ·(intro w hSw;(try dsimp only at hSw);go_simp;try with_reducible rfl)
  try simp only[tkS]
  refine tk 14 ⟨some 39,_,_,_,_,_⟩ ?_ rfl ?_ ?_
  rotate_left
  ·(intro w hSw;(try dsimp only at hSw);go_simp;try with_reducible rfl)
  try simp only[tkS]
  refine tk 15 ⟨some 40,_,_,_,_,_⟩ ?_ rfl ?_ ?_
  rotate_left
  ·(intro w hSw;(try dsimp only at hSw);go_simp;try with_reducible rfl)
  try simp only[tkS]
  refine tk 16 ⟨some 41,_,_,_,_,_⟩ ?_ rfl ?_ ?_
  rotate_left
  ·(intro w hSw;(try dsimp only at hSw);go_simp;try with_reducible rfl)
  try simp only[tkS]
  refine wpAnyH_ready (rs:=[10,17]) (by kernel_rfl) (by simp) ?_
  refine AllReadyH.cons (o:=⟨some 35,_,_,_,_,_⟩) rfl (fun K hK=>?_) (AllReadyH.cons (o:=⟨some 42,_,_,_,_,_⟩) rfl (fun K hK=>?_) AllReadyH.nil)
  ·skip
   go_simp
   refine hK.out _ _ ?_ (fun hHeld=>?_)
   ·(try dsimp only);exact⟨Ext.cell_ (w:=wD) (by repeat (first|exact Ext.refl _|(refine Ext.drew_ ?_)|(refine Ext.drewN_ ?_ _)|(refine Ext.alloc_ ?_ _))) j1,Ext.cell_ (w:=wD) (by repeat (first|exact Ext.refl _|(refine Ext.drew_ ?_)|(refine Ext.drewN_ ?_ _)|(refine Ext.alloc_ ?_ _))) j3,Ext.cell_ (w:=wD) (by repeat (first|exact Ext.refl _|(refine Ext.drew_ ?_)|(refine Ext.drewN_ ?_ _)|(refine Ext.alloc_ ?_ _))) hBX⟩
   clear hK K
   try simp only[tkS]
   refine wpAnyH_ready (rs:=[17]) (by kernel_rfl) (by simp) ?_
   refine AllReadyH.cons (o:=⟨some 42,_,_,_,_,_⟩) rfl (fun K hK=>?_) AllReadyH.nil
   go_simp
   skip
   refine hK.out _ _ ?_ (fun hHeld=>?_)
   ·(try dsimp only);exact⟨Ext.cell_ (w:=wD) (by repeat (first|exact Ext.refl _|(refine Ext.drew_ ?_)|(refine Ext.drewN_ ?_ _)|(refine Ext.alloc_ ?_ _))) j1,Ext.cell_ (w:=wD) (by repeat (first|exact Ext.refl _|(refine Ext.drew_ ?_)|(refine Ext.drewN_ ?_ _)|(refine Ext.alloc_ ?_ _))) j3,Ext.cell_ (w:=wD) (by repeat (first|exact Ext.refl _|(refine Ext.drew_ ?_)|(refine Ext.drewN_ ?_ _)|(refine Ext.alloc_ ?_ _))) hBX⟩
   clear hK K
   try simp only[tkS]
   refine wpAnyH_ready (rs:=[18]) (by kernel_rfl) (by simp) ?_
   refine AllReadyH.cons (o:=⟨some 43,_,_,_,_,_⟩) rfl (fun K hK=>?_) AllReadyH.nil
   have hHD:=HHD.out.ext (Ext.alloc_ (Ext.drew_ (Ext.refl wD)) (.cells #[.int .u64 u,.int .i64 nx] 140))
   refine step_append_src (by rfl) _ _ 80 (by rfl) B 140 i0 (.agg #[.int .u64 0,.int .i64 0]) 2 16 undM hi0 hz0 hz1 hz2 (by rfl) (by decide) (.slice S.I.1 M.ids.length S.I.2) M.ids.length (icells M.ids) (by rfl) (hHD.mem.fld ⟨9,140,2,S.I.1,M.ids.length,S.I.2,icells M.ids⟩ (by simp[memFlds])).2.1 (some ⟨wD.heap.size,0,none⟩) 1 1 [.int .u64 u,.int .i64 nx] (by rfl) (fun e=>by cases e) (Nat.le_refl _) (by rfl) (rslH wD.drew _ _) (by intro q hq;simp at hq;rcases hq with rfl|rfl<;>rfl) (by unfold maxLen;omega) (by omega) hHD.hbs ?_
   intro a2 c2 v2 hown hgrow hat
   obtain⟨z1,z2,z3,y9,yf⟩:=hHD.pushId (u,nx) a2 c2 hgrow hown hat
   have HZ1:=Lib.hid z1
   have HZ2:Hid (HStep hb b w S _ _):=(HSD.out.trans_ (HStep.of_ext (Ext.alloc_ (Ext.drew_ (Ext.refl wD)) (.cells #[.int .u64 u,.int .i64 nx] 140)))).trans_ z2
   have y0:=z3.cell (p:=⟨hb,0,none⟩) hHD.ne hHD.ptr
   have y2:=z3.cell (p:=⟨hb,2,none⟩) hHD.ne hHD.nxt
   have hnb:¬HL hb b S w.heap.size:=fun e=>by have:=(HH.out.own e).2;omega
   have hbx2:World.cell? _ ⟨w.heap.size,0,none⟩=some (.int .u64 u):=Ext.cell_ (w:=wD) (w':=_) (Ext.alloc_ (Ext.drew_ (Ext.refl wD)) (.cells #[.int .u64 u,.int .i64 nx] 140)) hBX
   have yb:=z3.cell (p:=⟨w.heap.size,0,none⟩) (fun e=>hnb (Or.inr e)) hbx2
   have x0:=z1.ptr
   have x2:=z1.nxt
   have xb:=z2.keep.cell (p:=⟨w.heap.size,0,none⟩) hnb hbx2
   clear hown hgrow hat z1 z2 z3 hHD hbx2
   refine hK.out _ _ ?_ (fun hHeld=>?_)
   ·(try dsimp only);exact⟨y0,y2,yb⟩
   clear hK K
   try simp only[tkS]
   refine tk 19 ⟨some 44,_,_,_,_,_⟩ ?_ rfl ?_ ?_
   rotate_left
   ·(intro w hSw;(try dsimp only at hSw);go_simp;try with_reducible rfl)
   try simp only[tkS]
   refine tk 20 ⟨some 45,_,_,_,_,_⟩ ?_ rfl ?_ ?_
   rotate_left
   ·(intro w hSw;(try dsimp only at hSw);go_simp;try with_reducible rfl)
   try simp only[tkS]
   refine wpAnyH_ready (rs:=[21]) (by kernel_rfl) (by simp) ?_
   refine AllReadyH.cons (o:=⟨none,_,_,_,_,_⟩) rfl (fun K hK=>?_) AllReadyH.nil
   go_simp
   skip
   refine hK.out _ _ ?_ (fun hHeld=>?_)
   ·(try dsimp only);exact⟨x0,x2,xb⟩
   clear hK K
   try simp only[tkS]
   refine wpAnyH_done (by kernel_rfl) ?_ _
   clear hHeld y0 y2 y9 yb yf xb hnb
   generalize v2.setCell ⟨b,9,none⟩ (Value.slice a2 (M.ids.length+1) c2)=wE at *
   have hfr:=HZ1.out.frozen 2
   have f1:IntKind.i64.wrap (nx+1)=nx+1:=IntWalk.i64_in _ (by omega)
   obtain⟨n1,n2⟩:=HZ1.out.setNext (nx+1)
   have m0:=n1.ptr
   have m9:=(n1.mem.fld ⟨9,140,2,a2,(M.ids++[(u,nx)]).length,c2,icells (M.ids++[(u,nx)])⟩ (by simp[memFlds])).1
   simp only[Fld.val,List.length_append,List.length_singleton] at m9
   have mR:RSl _ a2 (icells (M.ids++[(u,nx)])):=(row_rsl (n1.mem.fld ⟨9,140,2,a2,(M.ids++[(u,nx)]).length,c2,icells (M.ids++[(u,nx)])⟩ (by simp[memFlds])).2.1).1
   obtain⟨p0,p1⟩:=icells_at (M.ids++[(u,nx)]) M.ids.length (by simp)
   obtain⟨ib,io,hIa,k0⟩:=mR _ _ p0
   rw[hIa] at mR m9
   have k1:=mR.at_ p1
   rw[←Nat.add_assoc] at k1
   simp only[List.getElem_append_right (Nat.le_refl _),Nat.sub_self,List.getElem_singleton] at k1
   have HN1:=Lib.hid n1
   have HN2:=Lib.hid (HZ2.out.trans_ n2)
   have hlz:(M.ids.length:Int)<((M.ids.length+1:Nat):Int):=by omega
   clear n1 n2 mR p0 p1 k0 hIa
   generalize hwF:wE.setCell ⟨hb,2,none⟩ (.int .i64 (nx+1))=wF at *
   go_wp2
   go_ret
   right
   exact⟨HALL.out,_,rfl,HN1.out,HN2.out⟩
  ·skip
   go_simp
   refine hK.out _ _ ?_ (fun hHeld=>?_)
   ·(try dsimp only);exact⟨Ext.cell_ (w:=wD) (by repeat (first|exact Ext.refl _|(refine Ext.drew_ ?_)|(refine Ext.drewN_ ?_ _)|(refine Ext.alloc_ ?_ _))) j1,Ext.cell_ (w:=wD) (by repeat (first|exact Ext.refl _|(refine Ext.drew_ ?_)|(refine Ext.drewN_ ?_ _)|(refine Ext.alloc_ ?_ _))) j3,Ext.cell_ (w:=wD) (by repeat (first|exact Ext.refl _|(refine Ext.drew_ ?_)|(refine Ext.drewN_ ?_ _)|(refine Ext.alloc_ ?_ _))) hBX⟩
   clear hK K
   try simp only[tkS]
   refine wpAnyH_ready (rs:=[10]) (by kernel_rfl) (by simp) ?_
   refine AllReadyH.cons (o:=⟨some 35,_,_,_,_,_⟩) rfl (fun K hK=>?_) AllReadyH.nil
   go_simp
   skip
   refine hK.out _ _ ?_ (fun hHeld=>?_)
   ·(try dsimp only);exact⟨Ext.cell_ (w:=wD) (by repeat (first|exact Ext.refl _|(refine Ext.drew_ ?_)|(refine Ext.drewN_ ?_ _)|(refine Ext.alloc_ ?_ _))) j1,Ext.cell_ (w:=wD) (by repeat (first|exact Ext.refl _|(refine Ext.drew_ ?_)|(refine Ext.drewN_ ?_ _)|(refine Ext.alloc_ ?_ _))) j3,Ext.cell_ (w:=wD) (by repeat (first|exact Ext.refl _|(refine Ext.drew_ ?_)|(refine Ext.drewN_ ?_ _)|(refine Ext.alloc_ ?_ _))) hBX⟩
   clear hK K
   try simp only[tkS]
   refine wpAnyH_ready (rs:=[18]) (by kernel_rfl) (by simp) ?_
   refine AllReadyH.cons (o:=⟨some 43,_,_,_,_,_⟩) rfl (fun K hK=>?_) AllReadyH.nil
   have hHD:=HHD.out.ext (Ext.alloc_ (Ext.drew_ (Ext.refl wD)) (.cells #[.int .u64 u,.int .i64 nx] 140))
   refine step_append_src (by rfl) _ _ 80 (by rfl) B 140 i0 (.agg #[.int .u64 0,.int .i64 0]) 2 16 undM hi0 hz0 hz1 hz2 (by rfl) (by decide) (.slice S.I.1 M.ids.length S.I.2) M.ids.length (icells M.ids) (by rfl) (hHD.mem.fld ⟨9,140,2,S.I.1,M.ids.length,S.I.2,icells M.ids⟩ (by simp[memFlds])).2.1 (some ⟨wD.heap.size,0,none⟩) 1 1 [.int .u64 u,.int .i64 nx] (by rfl) (fun e=>by cases e) (Nat.le_refl _) (by rfl) (rslH wD.drew _ _) (by intro q hq;simp at hq;rcases hq with rfl|rfl<;>rfl) (by unfold maxLen;omega) (by omega) hHD.hbs ?_
   intro a2 c2 v2 hown hgrow hat
   obtain⟨z1,z2,z3,y9,yf⟩:=hHD.pushId (u,nx) a2 c2 hgrow hown hat
   have HZ1:=Lib.hid z1
   have HZ2:Hid (HStep hb b w S _ _):=(HSD.out.trans_ (HStep.of_ext (Ext.alloc_ (Ext.drew_ (Ext.refl wD)) (.cells #[.int .u64 u,.int .i64 nx] 140)))).trans_ z2
   have y0:=z3.cell (p:=⟨hb,0,none⟩) hHD.ne hHD.ptr
   have y2:=z3.cell (p:=⟨hb,2,none⟩) hHD.ne hHD.nxt
   have hnb:¬HL hb b S w.heap.size:=fun e=>by have:=(HH.out.own e).2;omega
   have hbx2:World.cell? _ ⟨w.heap.size,0,none⟩=some (.int .u64 u):=Ext.cell_ (w:=wD) (w':=_) (Ext.alloc_ (Ext.drew_ (Ext.refl wD)) (.cells #[.int .u64 u,.int .i64 nx] 140)) hBX
   have yb:=z3.cell (p:=⟨w.heap.size,0,none⟩) (fun e=>hnb (Or.inr e)) hbx2
   have x0:=z1.ptr
   have x2:=z1.nxt
   have xb:=z2.keep.cell (p:=⟨w.heap.size,0,none⟩) hnb hbx2
   clear hown hgrow hat z1 z2 z3 hHD hbx2
   refine hK.out _ _ ?_ (fun hHeld=>?_)
   ·(try dsimp only);exact⟨y0,y2,yb⟩
   clear hK K
   try simp only[tkS]
   refine tk 19 ⟨some 44,_,_,_,_,_⟩ ?_ rfl ?_ ?_
   rotate_left
   ·(intro w hSw;(try dsimp only at hSw);go_simp;try with_reducible rfl)
   try simp only[tkS]
   refine tk 20 ⟨some 45,_,_,_,_,_⟩ ?_ rfl ?_ ?_
   rotate_left
   ·(intro w hSw;(try dsimp only at hSw);go_simp;try with_reducible rfl)
   try simp only[tkS]
   refine wpAnyH_ready (rs:=[21]) (by kernel_rfl) (by simp) ?_
   refine AllReadyH.cons (o:=⟨none,_,_,_,_,_⟩) rfl (fun K hK=>?_) AllReadyH.nil
   go_simp
   skip
   refine hK.out _ _ ?_ (fun hHeld=>?_)
   ·(try dsimp only);exact⟨x0,x2,xb⟩
   clear hK K
   try simp only[tkS]
   refine wpAnyH_done (by kernel_rfl) ?_ _
   clear hHeld y0 y2 y9 yb yf xb hnb
   generalize v2.setCell ⟨b,9,none⟩ (Value.slice a2 (M.ids.length+1) c2)=wE at *
   have hfr:=HZ1.out.frozen 2
   have f1:IntKind.i64.wrap (nx+1)=nx+1:=IntWalk.i64_in _ (by omega)
   obtain⟨n1,n2⟩:=HZ1.out.setNext (nx+1)
   have m0:=n1.ptr
   have m9:=(n1.mem.fld ⟨9,140,2,a2,(M.ids++[(u,nx)]).length,c2,icells (M.ids++[(u,nx)])⟩ (by simp[memFlds])).1
   simp only[Fld.val,List.length_append,List.length_singleton] at m9
   have mR:RSl _ a2 (icells (M.ids++[(u,nx)])):=(row_rsl (n1.mem.fld ⟨9,140,2,a2,(M.ids++[(u,nx)]).length,c2,icells (M.ids++[(u,nx)])⟩ (by simp[memFlds])).2.1).1
   obtain⟨p0,p1⟩:=icells_at (M.ids++[(u,nx)]) M.ids.length (by simp)
   obtain⟨ib,io,hIa,k0⟩:=mR _ _ p0
   rw[hIa] at mR m9
   have k1:=mR.at_ p1
   rw[←Nat.add_assoc] at k1
   simp only[List.getElem_append_right (Nat.le_refl _),Nat.sub_self,List.getElem_singleton] at k1
   have HN1:=Lib.hid n1
   have HN2:=Lib.hid (HZ2.out.trans_ n2)
   have hlz:(M.ids.length:Int)<((M.ids.length+1:Nat):Int):=by omega
   clear n1 n2 mR p0 p1 k0 hIa
   generalize hwF:wE.setCell ⟨hb,2,none⟩ (.int .i64 (nx+1))=wF at *
   go_wp2
   go_ret
   right
   exact⟨HALL.out,_,rfl,HN1.out,HN2.out⟩
 ·have d0:=HX1.out.cell_ hQ0.out
  have d9:=HX1.out.cell_ hC9.out
  obtain⟨p0,p1⟩:=icells_at M.ids i hil
  have hRs:=HM.out.rI.ext HX1.out
  obtain⟨ib,io,hIa,c0⟩:=hRs _ _ p0
  rw[hIa] at hRs d9
  have c1:=hRs.at_ p1
  rw[←Nat.add_assoc] at c1
  have hltz:(i:Int)<(M.ids.length:Int):=by omega
  have hgd:M.ids.getD i (0,0)=M.ids[i]:=by rw[List.getD_eq_getElem?_getD,List.getElem?_eq_getElem hil];rfl
  rw[←hgd] at c1
  have HIU:=Lib.hid hiu
  generalize hv:M.ids.getD i (0,0)=v at *
  have HV:=Lib.hid hv
  clear q0 c9 hRs p0 p1 hgd c0 hIa hiu hv
  go_wp2
  go_ret
  left
  exact⟨i,hil,by rw[HV.out];exact HIU.out,by rw[HV.out];rfl,HX1.out⟩
end
section
variable {B hb b:Nat} {M:Mem} {S:Sls} {E:Nat→Addr} {ten nx:Int}
def SerPost (w:World) (B hb b:Nat) (M:Mem) (S:Sls) (ten nx u:Int) (e:Ending) (w':World):Prop :=
 (∃ i:Nat,i<M.ids.length∧(M.ids.getD i (0,0)).1=u∧e=.returned (.tuple #[.int .i64 (M.ids.getD i (0,0)).2,.nilIface])∧Ext w w') ∨
 ((∀ x∈M.ids,x.1≠u)∧∃ S',e=.returned (.tuple #[.int .i64 nx,.nilIface])∧OHeap w' B hb b {M with ids:=M.ids++[(u,nx)]} S' ten (nx+1)∧HStep hb b w S w' S')
theorem serial_walk (w:World) (hH:OHeap w B hb b M S ten nx) (hI:HInv M nx) (hE:G4 E w) (hn1:nx≤1000000000) (hl:M.ids.length≤1000000) (r:Int) (hr0:-9223372036854775808≤r∧r≤9223372036854775807) (hc:headC M r=0) :
  Calls Tryz.prog 14 #[.pointer (some ⟨hb,0,none⟩),.int .i64 r] w (SerPost w B hb b M S ten nx (M.roots.getD r.toNat 0)):=by
 have HH:=Lib.hid hH
 have HI:=Lib.hid hI
 have HE:=Lib.hid hE
 have hnx:=hI.nx1
 have hgM:=(chk_zero hI.chk).1
 obtain⟨rn,x,rfl,hrl,hpt,hk,hz,hx,hpl⟩:=headC_ok hgM hc
 have hR:rootB M (rn:Int)=true:=rootB_true.2 (by omega)
 have HR:=Lib.hid hR
 have hub:0≤M.roots.getD rn 0∧M.roots.getD rn 0≤18446744073709551615:=getD_in (P:=fun x=>0≤x∧x≤18446744073709551615) hI.ok.roots hrl
 obtain⟨rb,ro,hRa,hcell⟩:=(hH.mem.mem hI.ok).rR rn _ (wcells_at M.roots rn hrl)
 have c7:=(hH.mem.mem hI.ok).roots
 simp only[Nat.zero_add] at c7
 rw[hRa] at c7
 have hltz:(rn:Int)<(M.roots.length:Int):=by omega
 have hC7:=Lib.hid c7
 have hQ0:=Lib.hid hH.ptr
 have hCE:=Lib.hid hcell
 have HMM:=Lib.hid (hH.mem.mem hI.ok)
 have HGM:=Lib.hid hgM
 have HHY:=Lib.hid (⟨hk,hz,hx,hpl⟩:kindW (M.roots.getD rn 0)=0∧M.roots.getD rn 0≠0∧x∈objsAll M∧placeW (M.roots.getD rn 0)=(x.a:Int))
 have HFB:=Lib.hid (fieldsB_at (good_parts hgM).2.2.1 hrl)
 rw[Int.toNat_natCast]
 obtain⟨u,hu⟩:∃ u,u=M.roots.getD rn 0:=⟨_,rfl⟩
 rw[←hu] at HHY hCE hub HFB ⊢
 clear hH hI hE hR hc hk hz hx hpl hRa hcell c7 hpt hgM hu
 go_enter Tryz.func14,Tryz.ntmps14
 go_upto_region 3 with (go_at_call 40;refine (root1_any _ (HH.out.ext ((Ext.refl w).alloc_ _)) HI.out.ok w.heap.size (rn:Int) hr0.1 hr0.2 (by rw[World.cell?,heap_alloc_new];rfl)).mono ?_;rintro e w1 ⟨he,hq⟩;rw[HR.out] at he;subst he;have HX1:Hid (Ext w w1):=((Ext.refl w).alloc_ _).trans_ hq;clear hq)
 have q1:=HX1.out.cell_ hQ0.out
 have q2:=HX1.out.cell_ hC7.out
 have q3:=HX1.out.cell_ hCE.out
 go_upto_region 6 with (go_at_call 47;refine (head_yes u hub.1 hub.2 _ (HMM.out.ext HX1.out) (HX1.out.cell_ hQ0.out) HGM.out HHY.out.1 HHY.out.2.1 x HHY.out.2.2.1 HHY.out.2.2.2).mono ?_;rintro e w3 ⟨he,hq⟩;(try unfold headV at he);subst he;have HX3:Hid (Ext w w3):=HX1.out.trans_ hq;clear hq)
 refine named_world' (fun wD hwD=>?_)
 have HXD:Hid (Ext w wD):=by rw[hwD];exact HX3.out.alloc_ _
 have j1:=HXD.out.cell_ hQ0.out
 have j2:=HXD.out.cell_ hC7.out
 have j3:=HXD.out.cell_ hCE.out
 clear hwD
 go_wp2_with (go_at_call 48;refine (identity_walk _ (HH.out.ext HXD.out) HI.out.ok ⟨by omega,hn1⟩ hl u).mono ?_;rintro e w4 hq;have HQ:=Lib.hid hq;clear hq;rcases HQ.out with⟨i,h1,h2,he,h4⟩|⟨h1,S2,rfl,h3,h4⟩;(generalize hv:(M.ids.getD i (0,0)).2=v at he;have HV:=Lib.hid hv;have H1:=Lib.hid h1;have H2:=Lib.hid h2;have H4:=Lib.hid h4;clear hv h1 h2 h4;subst he))
 ·go_wp2
  go_ret2
  left
  exact⟨i,H1.out,H2.out,by rw[HV.out];rfl,HXD.out.trans_ H4.out⟩
 ·go_wp2
  go_ret2
  right
  exact⟨h1,S2,rfl,h3,(HStep.of_ext HXD.out).trans_ h4⟩
end
structure AI (M:Mem) (nx old:Int) (R k:Nat):Prop where
 inv:HInv M nx
 old:M.old=old
 roots:M.roots.length=R
 weak:M.weak.length≤k
 ids:M.ids.length≤k
 nx:nx≤(k:Int)+1
theorem AI.same {M N:Mem} {nx old:Int} {R k:Nat} (h:AI M nx old R k) (hi:HInv N nx) (hs:SameH M N):AI N nx old R (k+1) :=
 ⟨hi,hs.old.trans h.old,hs.roots.trans h.roots,by rw[hs.weak];have:=h.weak;omega,by have:=hs.ids;have:=h.ids;omega,by have:=h.nx;omega⟩
theorem AI.self {M:Mem} {nx old:Int} {R k:Nat} (h:AI M nx old R k):AI M nx old R (k+1):=h.same h.inv (SameH.refl M)
section
variable {B hb b:Nat} {M:Mem} {S:Sls} {E:Nat→Addr} {ten nx old:Int} {R k:Nat} {w:World}
theorem int_fld (v:Int) (st:List Int):fldB st (intW v)=true:=by
 unfold fldB
 have:=(intW_wd v).2.2
 have hk:kindW (intW v)=1:=this
 rw[if_neg (by omega),if_pos hk]
theorem int_inv (ht:0≤ten∧ten≤15) (h:HInv M nx) (v:Int) (r:Nat):HInv (putR (numM M ten v) (numC M ten v) r (numV M ten v)) nx∧SameH M (putR (numM M ten v) (numC M ten v) r (numV M ten v)):=by
 obtain⟨n1,n2⟩:=numM_inv (v:=v) ht h
 unfold putR
 split
 ·rename_i hc
  cases hs:smallB v with
  | true =>
   have e1:numM M ten v=M:=by unfold numM;rw[hs];rfl
   have e2:numV M ten v=intW v:=by unfold numV;rw[hs];rfl
   rw[e1,e2]
   obtain⟨lN,lO,hg⟩:=good_of h.chk
   exact rootM_inv h hg r (intW v) ⟨(intW_wd v).1,(intW_wd v).2.1⟩ (int_fld v _)
  | false =>
   have hc2:objC M ten 1=0:=by unfold numC at hc;rw[hs] at hc;simpa using hc
   obtain⟨i1,i2,i3⟩:=objM_inv (sz:=1) ht h 1 (by omega) (by omega)
   obtain⟨a,ha,hN⟩:=i3 hc2
   obtain⟨lN,lO,hg,hm⟩:=hN.good
   have hr:rawB (hKind (wat (objM M ten 1 1).W a))=true:=by rw[hN.hd];decide
   have hsz:szW (objM M ten 1 1).W a=1:=by unfold szW;rw[hN.hd];decide
   have e1:numM M ten v=bigM (objM M ten 1 1) a v:=by unfold numM;rw[hs];simp only[Bool.false_eq_true,if_false,if_pos hc2];rw[ha];rfl
   have e2:numV M ten v=addrW (a:Int):=by unfold numV;rw[hs];simp only[Bool.false_eq_true,if_false,if_pos hc2];rw[ha]
   obtain⟨k1,k2,k3⟩:=rawM_inv i1 hg hm hr ((objM M ten 1 1).W.set (a+1) (IntKind.u64.wrap v)) (by simp) (fun i hi=>by rw[hsz] at hi;rw[wat_set _ _ _ _ (by omega)]) (fun x hx=>by
    rcases List.mem_or_eq_of_mem_set hx with q|q
    ·exact i1.ok.W x q
    ·rw[q,IntKind.wrap_u64];omega)
   rw[e1,e2]
   obtain⟨m1,m2⟩:=rootM_inv k1 k3 r (addrW (a:Int)) ⟨(addrW_wd _).1,(addrW_wd _).2.1⟩ (addr_fld k3 hm)
   exact⟨m1,(i2.trans k2).trans m2⟩
 ·exact⟨n1,n2⟩
theorem const_inv (h:HInv M nx) (v:Int) (r:Nat):HInv (putR M (constC v) r (constV v)) nx∧SameH M (putR M (constC v) r (constV v)):=by
 unfold putR constC constV
 by_cases hv:0≤v∧v≤2
 ·rw[if_pos hv,if_pos hv,if_pos rfl]
  obtain⟨lN,lO,hg⟩:=good_of h.chk
  refine rootM_inv h hg r (constW v) ⟨(constW_wd v).1,(constW_wd v).2.1⟩ ?_
  have hk:kindW (constW v)=2:=(constW_wd v).2.2
  unfold fldB
  rw[if_neg (by omega),if_neg (by omega),if_pos hk]
  exact decide_eq_true (by unfold constW;omega)
 ·rw[if_neg hv,if_neg hv,if_neg (by decide)]
  exact⟨h,SameH.refl M⟩
theorem text_inv (ht:0≤ten∧ten≤15) (h:HInv M nx) (s:ByteArray) (hs:s.size≤2000) (r:Nat):HInv (putR (textM M ten s) (objC M ten (strN s)) r (textV M ten s)) nx∧SameH M (putR (textM M ten s) (objC M ten (strN s)) r (textV M ten s)):=by
 obtain⟨n1,n2,n3⟩:=textM_inv ht h s hs
 unfold putR
 split
 ·rename_i hc
  obtain⟨lN,lO,hg,hf⟩:=n3 hc
  have e2:textV M ten s=addrW (objPl M ten (strN s)):=by unfold textV;rw[if_pos hc]
  obtain⟨m1,m2⟩:=rootM_inv n1 hg r (textV M ten s) (by rw[e2];exact⟨(addrW_wd _).1,(addrW_wd _).2.1⟩) hf
  exact⟨m1,n2.trans m2⟩
 ·exact⟨n1,n2⟩
theorem makeP_inv (ht:0≤ten∧ten≤15) (h:HInv M nx) (kind:Int) (sz:Nat) (hk:0≤kind∧kind≤255) (hz:sz≤4096) (r:Nat):HInv (putR (objM M ten kind sz) (objC M ten sz) r (addrW (objPl M ten sz))) nx∧SameH M (putR (objM M ten kind sz) (objC M ten sz) r (addrW (objPl M ten sz))):=by
 unfold putR
 split
 ·rename_i hc;exact make_inv ht h kind sz hk hz hc r
 ·obtain⟨i1,i2,-⟩:=objM_inv ht h kind sz hk hz;exact⟨i1,i2⟩
theorem get_inv (h:HInv M nx) {r f s:Int} (hc:fieldC M r f s=0) (t:Nat):HInv (rootM M t (wat M.W (fieldP M r f))) nx∧SameH M (rootM M t (wat M.W (fieldP M r f))):=by
 have hgM:=(chk_zero h.chk).1
 obtain⟨rn,sn,fn,x,h1,h2,h3,hrl,hsl,hx,hpl,hraw,hfn,hP⟩:=fieldC_ok hgM hc
 obtain⟨lN,lO,hg⟩:=good_of h.chk
 obtain⟨hs,hob,hro,hwk,hfo,hid⟩:=good_parts hgM
 rw[hP]
 refine rootM_inv h hg t _ (wat_in h.ok _) ?_
 rw[←hg.starts]
 exact fld_ok hfo hx hraw fn hfn
variable (hO:OHeap w B hb b M S ten nx) (hA:AI M nx old R k) (hE:G4 E w) (ht:0≤ten∧ten≤15) (hB:GB B)
include hO hA hE ht hB
end
section
variable {I:Ideal} {M:Mem} {D:Nat→Prop} {f:Nat→Nat} {ten nx:Int}
theorem Rep.rawset (h:Rep I M D f) (hI:HInv M nx) {a:Nat} (ha:D a) (hr:rawB (hKind (wat I.V a))=true) (V W:List Int) (hV:V.length=I.V.length)
  (oV:∀ i,¬(a+1≤i∧i<a+1+szW I.V a)→wat V i=wat I.V i) (hW:W.length=M.W.length) (oW:∀ i,¬(f a+1≤i∧i<f a+1+szW I.V a)→wat W i=wat M.W i)
  (hk:∀ k,k<szW I.V a→wat W (f a+1+k)=wat V (a+1+k)):Rep {I with V:=V} {M with W:=W} D f:=by
 obtain⟨lN,lO,hG⟩:=good_of hI.chk
 have hall:(objsAll M).map (·.a)=lN++lO:=by
  rw[hG.all,List.map_map];exact (List.map_congr_left fun x _=>rfl).trans (List.map_id _)
 have hob:∀ b,D b→f b∈lN++lO:=fun b hb=>by rw[←hall];exact h.obj b hb
 have hsz:∀ b,D b→szW M.W (f b)=szW I.V b:=fun b hb=>by unfold szW;rw[h.morph.size b hb]
 have hG2:=hG.raw_ (hob a ha) (by rw[h.morph.kind a ha];exact hr) W hW (fun i hi=>oW i (by rw[hsz a ha] at hi;exact hi))
 have hall2:(objsAll {M with W:=W}).map (·.a)=lN++lO:=by
  rw[hG2.all,List.map_map];exact (List.map_congr_left fun x _=>rfl).trans (List.map_id _)
 have apI:∀ b,D b→b≠a→∀ i,b≤i→i<b+1+szW I.V b→wat V i=wat I.V i:=fun b hb hn i i1 i2=>oV i (by
  rcases Nat.lt_or_gt_of_ne hn with q|q
  ·have:=h.apart b a hb ha q;omega
  ·have:=h.apart a b ha hb q;omega)
 have apM:∀ b,D b→b≠a→∀ i,f b≤i→i<f b+1+szW I.V b→wat W i=wat M.W i:=fun b hb hn i i1 i2=>oW i (by
  have hn2:f b≠f a:=fun e=>hn (h.morph.inj b a hb ha e)
  rcases hG.apart (hob b hb) (hob a ha) hn2 with q|q
  ·rw[hsz b hb] at q;omega
  ·rw[hsz a ha] at q;omega)
 have hdI:∀ b,D b→wat V b=wat I.V b:=fun b hb=>by
  by_cases e:b=a
  ·subst e;exact oV b (by omega)
  ·exact apI b hb e b (Nat.le_refl _) (by omega)
 have hdM:∀ b,D b→wat W (f b)=wat M.W (f b):=fun b hb=>by
  by_cases e:b=a
  ·subst e;exact oW (f b) (by omega)
  ·exact apM b hb e (f b) (Nat.le_refl _) (by omega)
 have hszI:∀ b,D b→szW V b=szW I.V b:=fun b hb=>by unfold szW;rw[hdI b hb]
 refine⟨⟨h.morph.inj,fun b hb=>?_,fun b hb=>?_,fun b hb hq i hi=>?_,fun b hb hq i hi=>?_⟩,fun b hb=>?_,fun b c hb hc hbc=>?_,fun b hb=>?_,h.lenR,h.roots,h.lenK,h.weak,h.ids1,h.ids2,fun i hi=>?_,fun u s hu=>?_,h.nodes⟩
 ·show hKind (wat W (f b))=hKind (wat V b)
  rw[hdM b hb,hdI b hb];exact h.morph.kind b hb
 ·show hSize (wat W (f b))=hSize (wat V b)
  rw[hdM b hb,hdI b hb];exact h.morph.size b hb
 ·have hq2:rawB (hKind (wat I.V b))=false:=by rw[←hdI b hb];exact hq
  have hi2:i<szW I.V b:=by rw[←hszI b hb];exact hi
  have e:b≠a:=fun e=>by subst e;rw[hr] at hq2;cases hq2
  show Cor f D (wat V (b+1+i)) (wat W (f b+1+i))
  rw[apM b hb e _ (by omega) (by omega),apI b hb e _ (by omega) (by omega)]
  exact h.morph.fld b hb hq2 i hi2
 ·have hq2:rawB (hKind (wat I.V b))=true:=by rw[←hdI b hb];exact hq
  have hi2:i<szW I.V b:=by rw[←hszI b hb];exact hi
  show wat W (f b+1+i)=wat V (b+1+i)
  by_cases e:b=a
  ·subst e;exact hk i hi2
  ·rw[apM b hb e _ (by omega) (by omega),apI b hb e _ (by omega) (by omega)]
   exact h.morph.raw b hb hq2 i hi2
 ·show b+1+szW V b≤V.length
  rw[hszI b hb,hV];exact h.dom b hb
 ·show b+1+szW V b≤c
  rw[hszI b hb];exact h.apart b c hb hc hbc
 ·rw[hall2];exact hob b hb
 ·show _<(V.length:Int)
  rw[hV];exact h.wkV i hi
 ·show _<(V.length:Int)
  rw[hV];exact h.idV u s hu
theorem Holds.newraw (ht:0≤ten∧ten≤15) (h:Holds I M) (hI:HInv M nx) (kind:Int) (sz:Nat) (us:List Int) (hu:us.length=sz) (hk:0≤kind∧kind≤255) (hr:rawB kind=true) (hz:sz≤4096) (hc:objC M ten sz=0)
  {p:Nat} (hp:objPl M ten sz=(p:Int)) (W:List Int) (hW:W.length=(objM M ten kind sz).W.length) (oW:∀ i,¬(p+1≤i∧i<p+1+sz)→wat W i=wat (objM M ten kind sz).W i) (hfl:∀ k,k<sz→wat W (p+1+k)=us.getD k 0) :
  ∃ D f,Rep (I.new kind us) {objM M ten kind sz with W:=W} (newD I D) f∧p=f I.V.length:=by
 obtain⟨D,f,hR,e⟩:=h.obj ht hI kind sz hk hz hc
 have hI2:=(objM_inv ht hI kind sz hk hz).1
 obtain rfl:p=f I.V.length:=by rw[hp] at e;omega
 have hl:(List.replicate sz (fillW kind)).length=sz:=by simp
 have hd:=new_hd I kind (List.replicate sz (fillW kind))
 rw[hl] at hd
 obtain⟨d1,d2,d3,d4,d5⟩:=headW_hd kind 0 0 (sz:Int) hk (by omega) (by omega) ⟨by omega,by omega⟩
 have hs:szW (I.new kind (List.replicate sz (fillW kind))).V I.V.length=sz:=by unfold szW;rw[hd,d5];omega
 have hd2:=new_hd I kind us
 rw[hu] at hd2
 refine⟨D,f,hR.rawset hI2 (a:=I.V.length) (Or.inr rfl) (by rw[hd,d2];exact hr) (I.new kind us).V W ?_ (fun i hi=>?_) hW (fun i hi=>oW i (by rw[hs] at hi;exact hi)) (fun k hk2=>?_),rfl⟩
 ·show (I.V++_::us).length=(I.V++_::List.replicate sz (fillW kind)).length
  simp[hu]
 ·rw[hs] at hi
  by_cases q:i<I.V.length
  ·rw[new_old I kind us q,new_old I kind _ q]
  ·by_cases q2:i=I.V.length
   ·subst q2;rw[hd2,hd]
   ·have q3:i=I.V.length+1+(i-I.V.length-1):=by omega
    rw[q3,new_fld,new_fld]
    rw[List.getD_eq_getElem?_getD,List.getD_eq_getElem?_getD,List.getElem?_eq_none (by omega),List.getElem?_eq_none (by simp;omega)]
 ·rw[hs] at hk2
  rw[hfl k hk2,new_fld]
theorem Holds.obj_no (ht:0≤ten∧ten≤15) (h:Holds I M) (hI:HInv M nx) (kind:Int) (sz:Nat) (hc:objC M ten sz≠0):Holds I (objM M ten kind sz):=by
 unfold objM
 rw[if_neg hc]
 split
 ·exact h.mid ht hI sz
 ·unfold o1M
  split
  ·exact h.minor ht hI
  ·exact h
theorem pts_int (v:Int):ptsW (intW v)<0:=by
 have hk:kindW (intW v)=1:=(intW_wd v).2.2
 unfold ptsW
 rw[if_neg (fun q=>by omega)];decide
theorem pts_const {v:Int}:ptsW (constW v)<0:=by
 have hk:kindW (constW v)=2:=(constW_wd v).2.2
 unfold ptsW
 rw[if_neg (fun q=>by omega)];decide
def Ideal.int (I:Ideal) (r:Nat) (v:Int):Ideal:=if smallB v then I.setR r (intW v) else (I.new 1 [IntKind.u64.wrap v]).setR r (addrW (I.V.length:Int))
theorem Holds.int (ht:0≤ten∧ten≤15) (h:Holds I M) (hI:HInv M nx) (v:Int) (r:Nat) (hl:I.V.length≤1000000000) (hc:numC M ten v=0):Holds (I.int r v) (putR (numM M ten v) (numC M ten v) r (numV M ten v)):=by
 unfold putR
 rw[if_pos hc]
 unfold Ideal.int
 cases hs:smallB v with
 | true =>
  have e1:numM M ten v=M:=by unfold numM;rw[hs];rfl
  have e2:numV M ten v=intW v:=by unfold numV;rw[hs];rfl
  rw[e1,e2,if_pos rfl]
  exact h.plain r (pts_int v)
 | false =>
  rw[if_neg (by simp)]
  have hc2:objC M ten 1=0:=by unfold numC at hc;rw[hs] at hc;simpa using hc
  obtain⟨i1,i2,i3⟩:=objM_inv (sz:=1) ht hI 1 (by omega) (by omega)
  obtain⟨a,ha,hN⟩:=i3 hc2
  have hlen:=hN.len
  obtain⟨D,f,hR,hp⟩:=h.newraw ht hI 1 1 [IntKind.u64.wrap v] rfl (by omega) (by decide) (by omega) hc2 ha ((objM M ten 1 1).W.set (a+1) (IntKind.u64.wrap v)) (by simp) (fun i hi=>wat_set _ _ _ _ (by omega)) (fun k hk=>by
   obtain rfl:k=0:=by omega
   exact wat_set_same _ _ _ (by omega))
  have e1:numM M ten v={objM M ten 1 1 with W:=(objM M ten 1 1).W.set (a+1) (IntKind.u64.wrap v)}:=by unfold numM;rw[hs];simp only[Bool.false_eq_true,if_false,if_pos hc2];rw[ha];rfl
  have e2:numV M ten v=addrW (a:Int):=by unfold numV;rw[hs];simp only[Bool.false_eq_true,if_false,if_pos hc2];rw[ha]
  have hg:=(chk_zero (int_inv ht hI v r).1.chk).1
  rw[e1,e2]
  have hle:a≤1000000000:=by have:=len_small (good_parts (chk_zero i1.chk).1).1;omega
  have hco:=cor_addr (f:=f) (D:=newD I D) (a:=I.V.length) (Or.inr rfl) hl (by omega)
  rw[←hp] at hco
  exact⟨_,f,hR.setR r hco⟩
theorem Holds.int_no (ht:0≤ten∧ten≤15) (h:Holds I M) (hI:HInv M nx) (v:Int) (r:Nat) (hc:numC M ten v≠0):Holds I (putR (numM M ten v) (numC M ten v) r (numV M ten v))∧smallB v=false∧objC M ten 1≠0:=by
 have hs:smallB v=false:=by
  cases hs:smallB v with
  | false=>rfl
  | true=>exact absurd (by unfold numC;rw[hs];rfl) hc
 have hc2:objC M ten 1≠0:=by unfold numC at hc;rw[hs] at hc;simpa using hc
 unfold putR
 rw[if_neg hc]
 have e1:numM M ten v=objM M ten 1 1:=by unfold numM;rw[hs];simp only[Bool.false_eq_true,if_false,if_neg hc2]
 rw[e1]
 exact⟨h.obj_no ht hI 1 1 hc2,hs,hc2⟩
def Ideal.text (I:Ideal) (r:Nat) (s:ByteArray):Ideal:=(I.new 2 ((s.size:Int)::strL s)).setR r (addrW (I.V.length:Int))
theorem Holds.text (ht:0≤ten∧ten≤15) (h:Holds I M) (hI:HInv M nx) (s:ByteArray) (hs:s.size≤2000) (r:Nat) (hl:I.V.length≤1000000000) (hc:objC M ten (strN s)=0):Holds (I.text r s) (putR (textM M ten s) (objC M ten (strN s)) r (textV M ten s)):=by
 unfold putR
 rw[if_pos hc]
 have hn:strN s=1+(s.size+7)/8:=rfl
 have hll:=strL_len s
 obtain⟨i1,i2,i3⟩:=objM_inv ht hI 2 (strN s) (by omega) (by omega)
 obtain⟨a,ha,hN⟩:=i3 hc
 have hlen:=hN.len
 obtain⟨s1,s2⟩:=strW_at (objM M ten 2 (strN s)).W a s hlen
 obtain⟨D,f,hR,hp⟩:=h.newraw ht hI 2 (strN s) ((s.size:Int)::strL s) (by simp;omega) (by omega) (by decide) (by omega) hc ha (strW (objM M ten 2 (strN s)).W a s) s1 s2 (fun k hk=>by
  unfold strW
  rw[wat_splice _ _ _ _ (by simp;omega)]
  by_cases q:k=0
  ·subst q
   rw[if_neg (by omega)]
   exact wat_set_same _ _ _ (by omega)
  ·rw[if_pos (by omega)]
   obtain⟨j,rfl⟩:∃ j,k=j+1:=⟨k-1,by omega⟩
   rw[show a+1+(j+1)-(a+1+1)=j by omega]
   rfl)
 have e1:textM M ten s={objM M ten 2 (strN s) with W:=strW (objM M ten 2 (strN s)).W a s}:=by unfold textM;rw[if_pos hc,ha];rfl
 have e2:textV M ten s=addrW (a:Int):=by unfold textV;rw[if_pos hc,ha]
 rw[e1,e2]
 have hle:a≤1000000000:=by have:=len_small (good_parts (chk_zero i1.chk).1).1;omega
 have hco:=cor_addr (f:=f) (D:=newD I D) (a:=I.V.length) (Or.inr rfl) hl (by omega)
 rw[←hp] at hco
 exact⟨_,f,hR.setR r hco⟩
theorem Holds.text_no (ht:0≤ten∧ten≤15) (h:Holds I M) (hI:HInv M nx) (s:ByteArray) (r:Nat) (hc:objC M ten (strN s)≠0):Holds I (putR (textM M ten s) (objC M ten (strN s)) r (textV M ten s)):=by
 unfold putR textM
 rw[if_neg hc,if_neg hc]
 exact h.obj_no ht hI 2 (strN s) hc
end
theorem not_lit {nm:ByteArray} {l:List UInt8} (h:nm≠⟨l.toArray⟩):(nm.toList==l)=false:=by
 rw[ByteArray.toList_eq,beq_eq_false_iff_ne]
 intro e
 obtain⟨⟨m⟩⟩:=nm
 exact h (by rw[←e])
def I64 (a:Int):Prop:=-9223372036854775808≤a∧a≤9223372036854775807
end Go.Proofs.YtelhoppfidibiaaGreatDoor
