/- The walk of the nursery's collector's move: an object that is old enough. -/
import Derived.Test.YtelhoppfidibiaaGreatDoorJXa09
set_option linter.unusedSimpArgs false
set_option linter.unusedVariables false
set_option maxHeartbeats 8000000
set_option maxRecDepth 100000
namespace Go.Proofs.YtelhoppfidibiaaGreatDoor
open Go.RowKit
open IntWalk renaming i64_in→Za
theorem B7.setOldTop {w:World} {B b:Nat} {tI:TypeId} {M:A7} {S:C8} (h:B7 w B b tI M S) (v:Int):B7 (w.setCell ⟨b,6,none⟩ (.int .i64 v)) B b tI {M with oldTop:=v} S :=
 OM.setNum (n1:=[(0,M.half),(1,M.old),(2,M.card),(4,M.used),(5,M.top)]) (n2:=[]) h v
theorem G7.setOldTop {w:World} {B b:Nat} {C:D9} {S:C8} {X:Pl} (h:G7 w B b C S X) (v:Int):G7 (w.setCell ⟨b,6,none⟩ (.int .i64 v)) B b {C with M:={C.M with oldTop:=v}} S X :=
 G7.onMem h (B7.setOldTop h.mem v) (A8.set_ (A8.refl _ _) (p:=⟨b,6,none⟩) (Or.inl (Or.inl rfl)) _)
theorem E9a {M:A7} (h:M.Ok) (v:Int) (h0:0≤v) (h1:v≤1000000):({M with oldTop:=v}:A7).Ok :=
 ⟨h.half,h.old,h.card,h.used,h.top,⟨by show -9223372036854775808≤v;omega,by show v≤9223372036854775807;omega⟩,h.W,h.roots,h.weak,h.ids,h.lenW,h.lenR,h.lenK,h.lenI,h.lenC⟩
theorem E6x (B b:Nat) (C:D9) (S:C8) (X:Pl) (j:Nat) (w:World) (hO:G7 w B b C S X) (hc:A7n C j) (hage:C.ten≤F4 (A6 C.M.W j)) :
  Calls Tryz.prog 144 #[.pointer (some ⟨X.c,0,none⟩),.int .i64 (j:Int)] w fun e w'=>e=.returned (.int .i64 (U4 C j))∧A3e w B b S X (L6 C j) w':=by
 have hto:U4 C j=2*C.M.half+C.M.oldTop:=by unfold U4;rw[if_pos hage]
 obtain⟨hs,hok,⟨t0,t1⟩,⟨b0,b1⟩,⟨p0,p1⟩,hd,hsrc,⟨d0,d1⟩,hnew,hfew⟩:=hc;rw[hto] at d0 d1 ⊢;obtain⟨d,hd2⟩:∃ d:Nat,2*C.M.half+C.M.oldTop=(d:Int):=⟨(2*C.M.half+C.M.oldTop).toNat,by omega⟩;rw[hd2] at d0 d1 ⊢;obtain⟨x,hx⟩:∃ x,x=A6 C.M.W j:=⟨_,rfl⟩;rw[←hx] at hage hd hsrc d1;have hxr:=O6 hok j;rw[←hx] at hxr;obtain⟨k0,k1,a0,a1,m0,m1,z0⟩:=Z9 x hxr.1;have z1:B5 x≤4096:=((A1v x).1 hd).2.2;have hM:=hO.mem.mem hok;have hjl:j<C.M.W.length:=by omega
 obtain⟨g,hg,hgB,hgl,hgf,hgc,cur,hgh,hcl,-⟩:=Q3 hO.mem.fW (by omega);have c3:=hM.W;simp only[Nat.zero_add] at c3;rw[hg] at c3;have hcell:w.cell? ⟨g,j,none⟩=some (.int .u64 x):=by
  have:=hM.rW;rw[hg] at this;rw[hx];simpa [A6] using this.at_ (K2 C.M.W j hjl)
 have f0:=hO.f0;have f1:=hO.f1;have f2:=hO.f2;have f3:=hO.f3;have hcz:=hO.clt;have hfz:=hO.frozen 3;have hltz:(j:Int)<(C.M.W.length:Int):=by omega
 have hwl:=hok.lenW;have e1:IntKind.i64.wrap (1+B5 x)=1+B5 x:=Za _ (by omega);have sh1:=hs.h1;have sh2:=hs.h2;have so2:=hs.o2;have sp1:=hs.p1;have sp2:=hs.p2;have e2a:IntKind.i64.wrap (2*C.M.half)=2*C.M.half:=Za _ (by omega);have e2:IntKind.i64.wrap (2*C.M.half+C.M.oldTop)=(d:Int):=by rw[Za _ (by omega)];exact hd2
 have HD2:=Hz hd2;have HTO:=Hz hto;have e3:IntKind.i64.wrap (C.M.oldTop+(1+B5 x))=C.M.oldTop+(1+B5 x):=Za _ (by omega);have e4:IntKind.i64.wrap (F4 x+1)=F4 x+1:=Za _ (by omega);have HO:=Hz hO;have HD:=Hz hd;have HXR:=Hz hxr;have HOK:=Hz hok;have HS:=Hz hs;have HG:=Hz hg;have HX:=Hz hx;have HN:=Hz hnew;have HM:=Hz hM;have HFEW:=Hz hfew;have HGC:=Hz hgc;clear hM hO hs hok hg hnew hd hxr hgh hgf hx hto hfew hcl hgc hd2
 go_enter Tryz.func144,Tryz.ntmps144
 go_wp2_with (go_at_call 56;refine (A3d x HXR.out.1 HXR.out.2 HD.out _).mono ?_;rintro e w1 ⟨rfl,hq⟩;have HX1:=Hz hq;have hz1:w.heap.size≤w1.heap.size:=Below.size hq;clear hq)
 refine P4 (fun W2 hW2=>?_);obtain⟨H,hH⟩:∃ H,H=w1.heap.size:=⟨_,rfl⟩;rw[←hH] at hz1 ⊢;have hE2:A0 w W2:=by rw[hW2];exact HX1.out.alloc_ _
 have hHz:H<W2.heap.size:=by rw[hW2,hH];simp
 have q0:W2.cell? ⟨H,0,none⟩=some (.int .i64 (B3 x)):=by rw[hW2,hH];simp[go_sem]
 have q1:W2.cell? ⟨H,1,none⟩=some (.int .i64 (F4 x)):=by rw[hW2,hH];simp[go_sem]
 have q2:W2.cell? ⟨H,2,none⟩=some (.int .i64 (G5 x)):=by rw[hW2,hH];simp[go_sem]
 have q3:W2.cell? ⟨H,3,none⟩=some (.int .i64 (B5 x)):=by rw[hW2,hH];simp[go_sem]
 have qf:W2.frozen? ⟨H,1,none⟩=false:=by rw[hW2,hH];simp[go_sem]
 have HO2:=Hz (HO.out.ext hE2);have HE2:=Hz hE2
 replace f0:=HO2.out.f0
 replace f1:=HO2.out.f1
 replace f2:=HO2.out.f2
 replace f3:=HO2.out.f3
 replace hfz:=HO2.out.frozen 3
 have hcz2:=HO2.out.clt;have hne:X.c≠H:=by omega
 have hbz:=OM.lt HO.out.mem;have hbz2:=OM.lt HO2.out.mem;have hbH:b≠H:=by omega
 have hbH':H≠b:=by omega
 have mc0:=(HO2.out.mem.mem HOK.out).half;have mc6:=(HO2.out.mem.mem HOK.out).oldTop;have mf6:=OM.frozen HO2.out.mem 6;simp only[Nat.zero_add] at mc0 mc6;have hne':H≠X.c:=by omega
 clear hW2 hE2 hcell c3 hH;go_region;go_wp2;go_region;go_wp2;go_region;go_wp2;refine P4 (fun W3 hW3=>?_);have hO3:G7 W3 B b {C with M:={C.M with oldTop:=C.M.oldTop+(1+B5 x)}} S X:=by
  rw[hW3];refine G7.kept (G7.setOldTop HO2.out (C.M.oldTop+(1+B5 x))) fun k hk=>?_
  have:=HO.out.ownC_size hk;exact heap_setCell_other _ ⟨H,1,none⟩ k _ (by simp only;omega)
 have hK3:A8 (Z3 b S X) w W3:=by
  rw[hW3];exact (((((A8.of_ext HE2.out).set_ (p:=⟨b,6,none⟩) (Or.inl (Or.inl (Or.inl rfl))) _).set_ (p:=⟨H,1,none⟩) (Or.inr hz1) _).drew_).drew_).drew_
 have r0:W3.cell? ⟨H,0,none⟩=some (.int .i64 (B3 x)):=by rw[hW3];simp[go_sem,hbH,q0]
 have r1:W3.cell? ⟨H,1,none⟩=some (.int .i64 0):=by rw[hW3];simp[go_sem,hbH,q1]
 have r2:W3.cell? ⟨H,2,none⟩=some (.int .i64 (G5 x)):=by rw[hW3];simp[go_sem,hbH,q2]
 have r3:W3.cell? ⟨H,3,none⟩=some (.int .i64 (B5 x)):=by rw[hW3];simp[go_sem,hbH,q3]
 have hz3:H<W3.heap.size:=B9 r0;have HO3:=Hz hO3;have HK3:=Hz hK3;clear hW3 hO3 hK3 q0 q1 q2 q3 qf f0 f1 f2 f3 hfz hcz2 hHz hbz2 hbH hbH' mc0 mc6 mf6;have hgc:=HGC.out;obtain⟨n,hn⟩:∃ n:Nat,B5 x=(n:Int):=⟨(B5 x).toNat,by omega⟩;obtain⟨A1,C1,hs1,hA1⟩:=B4v (P:=Tryz.prog) A0c A3w g C.M.W.length S.W.2 (d+1) n ((d:Int)+1) ((d:Int)+(1+B5 x)) (by omega) (by omega) (by omega);obtain⟨A2,C2,hs2,hA2⟩:=B4v (P:=Tryz.prog) A0c A3w g C.M.W.length S.W.2 (j+1) n ((j:Int)+1) ((j:Int)+(1+B5 x)) (by omega) (by omega) (by omega);have e5:IntKind.i64.wrap ((d:Int)+1)=(d:Int)+1:=Za _ (by omega);have e6:IntKind.i64.wrap ((d:Int)+(1+B5 x))=(d:Int)+(1+B5 x):=Za _ (by omega);have e7:IntKind.i64.wrap ((j:Int)+1)=(j:Int)+1:=Za _ (by omega);have e8:IntKind.i64.wrap ((j:Int)+(1+B5 x))=(j:Int)+(1+B5 x):=Za _ (by omega);have hwc:(C5 C.M.W).length=C.M.W.length:=by simp[C5]
 have hrow:W3.drew.ownsRow B 78 1 (.slice S.W.1 (C5 C.M.W).length S.W.2) (C5 C.M.W).length (C5 C.M.W):=by rw[hwc];exact HO3.out.mem.fW
 obtain⟨w4,hrun,hb4,ho4⟩:=C4s (P:=Tryz.prog) (W:=W3.drew) 76 3 78 A0c A9s hrow (A6r _) HG.out A1 A2 C1 C2 (d+1) (j+1) n hA1 hA2 (by omega) (by omega);rw[hwc] at ho4;have f0:=HO3.out.f0;have c3:=(HO3.out.mem.mem (E9a HOK.out (C.M.oldTop+(1+B5 x)) (by omega) (by omega))).W;simp only[Nat.zero_add] at c3;rw[HG.out] at c3;have HB4:=Hz hb4;have HO4:=Hz ho4;have HN2:=Hz hn;clear hb4 ho4 hrow hn hgc hwc hA1 hA2;go_region;go_wp2;have hn:=HN2.out;have hcw:C.M.W.length=(splice C.M.W (d+1) ((C.M.W.drop (j+1)).take n)).length:=by rw[length_splice];rw[List.length_take,List.length_drop];omega
 have hO4:G7 w4 B b {C with M:={C.M with W:=splice C.M.W (d+1) ((C.M.W.drop (j+1)).take n),oldTop:=C.M.oldTop+(1+B5 x)}} S X:=by
  refine G7.onMem (C:={C with M:={C.M with oldTop:=C.M.oldTop+(1+B5 x)}}) (HO3.out.ext (A0.refl _).drew_) (B7.rowW (OM.ext HO3.out.mem (A0.refl _).drew_) HG.out HB4.out _ hcw.symm ?_) ((A8.of_but HB4.out).sub fun k hk=>?_)
  ·rw[B8r,show C5 ((C.M.W.drop (j+1)).take n)=((C5 C.M.W).drop (j+1)).take n by simp[C5,List.map_take,List.map_drop]];exact HO4.out
  ·subst hk;exact Or.inr (Or.inl HG.out)
 have hK4:A8 (Z3 b S X) w w4:=(HK3.out.drew_).trans ((A8.of_but HB4.out).sub fun k hk=>by subst hk;exact Or.inl (Or.inr (Or.inl HG.out)));have hgH:∀ k,k=H→¬k=g:=fun k hk e=>by omega
 have v0:w4.cell? ⟨H,0,none⟩=some (.int .i64 (B3 x)):=(A8.of_but HB4.out).cell (p:=⟨H,0,none⟩) (hgH H rfl) r0;have v1:w4.cell? ⟨H,1,none⟩=some (.int .i64 0):=(A8.of_but HB4.out).cell (p:=⟨H,1,none⟩) (hgH H rfl) r1;have v2:w4.cell? ⟨H,2,none⟩=some (.int .i64 (G5 x)):=(A8.of_but HB4.out).cell (p:=⟨H,2,none⟩) (hgH H rfl) r2;have v3:w4.cell? ⟨H,3,none⟩=some (.int .i64 (B5 x)):=(A8.of_but HB4.out).cell (p:=⟨H,3,none⟩) (hgH H rfl) r3;generalize hM4:splice C.M.W (d+1) ((C.M.W.drop (j+1)).take n)=W4 at *
 obtain⟨g4,hg4,-,hgl4,hgf4,-,cur4,hgh4,hcl4,-⟩:=Q3 hO4.mem.fW (show 0<W4.length by omega)
 try simp only at hg4
 obtain rfl:g4=g:=by rw[HG.out] at hg4;injection hg4 with hg4;injection hg4 with hg4;exact hg4.symm
 have f0':=hO4.f0;have c3':=(hO4.mem.fld ⟨3,78,1,S.W.1,W4.length,S.W.2,C5 W4⟩ (by simp[F3])).1;simp only[I6.val,hg4,←hcw] at c3';have u3:w4.cell? ⟨g4,d,none⟩=some (.int .u64 (W4.getD d 0)):=by
  have:=(R4 hO4.mem.fW).1;simp only[hg4] at this;simpa using this.at_ (K2 W4 d (by omega))
 have uf:=hgf4 d;have hxg:X.c≠g4:=fun e=>HO.out.cN (e ▸ Or.inr (Or.inl HG.out))
 have hbg:g4≠b:=HO.out.mem.notW HG.out;have a2:(0:Int)≤0∧(0:Int)≤15:=⟨by omega,by omega⟩;have HAGE:Hid (C.ten≤F4 x):=by unfold Hid;omega
 have hdl:(d:Int)<(C.M.W.length:Int):=by omega
 have HO4':=Hz hO4;have HK4:=Hz hK4;have HW4:=Hz hM4;have HCW:=Hz hcw;clear hn hM4 hO4 hK4 hcw hgf4 hgh4 hcl4 f0 c3 r0 r1 r2 r3 hg4 hrun hs1 hs2;refine wp_region_held_drew (S:=fun W=>W.cell? ⟨X.c,0,none⟩=some (.pointer (some ⟨b,0,none⟩))∧W.cell? ⟨b,3,none⟩=some (.slice (some ⟨g4,0,none⟩) C.M.W.length S.W.2)∧W.cell? ⟨H,0,none⟩=some (.int .i64 (B3 x))∧W.cell? ⟨H,1,none⟩=some (.int .i64 0)∧W.cell? ⟨H,2,none⟩=some (.int .i64 (G5 x))∧W.cell? ⟨H,3,none⟩=some (.int .i64 (B5 x))) (by kernel_rfl) ?_ (fun hH=>?_)
 ·exact⟨f0',c3',v0,v1,v2,v3⟩
 refine tJ 0 110 rfl ?_
 try simp only[A5]
 refine tJ 1 111 rfl ?_
 try simp only[A5]
 refine tJ 2 112 rfl ?_
 try simp only[A5]
 refine tJ 3 113 rfl ?_
 try simp only[A5]
 refine tJ 4 114 rfl ?_
 try simp only[A5]
 refine tJ 5 115 rfl ?_
 try simp only[A5]
 refine tJ 6 116 rfl ?_
 try simp only[A5]
 refine tJ 7 117 rfl ?_
 try simp only[A5]
 refine tJ 8 118 rfl ?_
 try simp only[A5]
 refine wpAnyH_ready (rs:=[9]) (by kernel_rfl) (by simp) ?_;refine AllReadyH.cons (o:=⟨some 119,_,_,_,_,_⟩) rfl (fun K hK=>?_) AllReadyH.nil;go_simp;refine (B1u (B3 x) 0 (G5 x) (B5 x) ⟨k0,k1⟩ a2 ⟨m0,m1⟩ ⟨z0,z1⟩ _).mono ?_;rintro e w5 ⟨rfl,hq⟩;have HX5:Hid (A0 w4 w5):=A0.trans_ (by first|exact A0.refl _|exact (A0.refl _).drew_|exact (A0.refl _).drewN_ _) hq;clear hq;have gc:=HX5.out.cell_ u3;have gf:w5.frozen? ⟨g4,d,none⟩=false:=by rw[HX5.out.three.2.1 _ _ hgl4];exact uf
 have hS5:=And.intro (HX5.out.cell_ f0') (And.intro (HX5.out.cell_ c3') (And.intro (HX5.out.cell_ v0) (And.intro (HX5.out.cell_ v1) (And.intro (HX5.out.cell_ v2) (HX5.out.cell_ v3)))));refine hK.out _ _ ?_ (fun hH=>?_)
 ·(try dsimp only);exact hS5
 clear hK K
 try simp only[A5]
 refine tJ 10 120 rfl ?_
 try simp only[A5]
 refine wpAnyH_ready (rs:=[11]) (by kernel_rfl) (by simp) ?_;refine AllReadyH.cons (o:=⟨none,_,_,_,_,_⟩) rfl (fun K hK=>?_) AllReadyH.nil;go_simp;skip;refine hK.out _ _ ?_ (fun hH=>?_)
 ·(try dsimp only);(refine⟨?_,?_,?_,?_,?_,?_⟩<;>rw[World.cell?_setCell_far _ _ _ _ (by simp only;omega)])
  ·exact HX5.out.cell_ f0'
  ·exact HX5.out.cell_ c3'
  ·exact HX5.out.cell_ v0
  ·exact HX5.out.cell_ v1
  ·exact HX5.out.cell_ v2
  ·exact HX5.out.cell_ v3
 clear hK K
 try simp only[A5]
 refine wpAnyH_done (by kernel_rfl) ?_ _;clear hH hS5 f0' c3' v1 v2 v3;generalize hW6':w5.setCell ⟨g4,d,none⟩ (Value.int .u64 (J7 (B3 x) 0 (G5 x) (B5 x)))=W6;have hW6:=hW6'.symm;clear hW6';have hO6:G7 W6 B b {C with M:={C.M with W:=W4.set d (J7 (B3 x) 0 (G5 x) (B5 x)),oldTop:=C.M.oldTop+(1+B5 x)}} S X:=by
  rw[hW6];exact G7.onMem (C:={C with M:={C.M with W:=W4,oldTop:=C.M.oldTop+(1+B5 x)}}) (HO4'.out.ext HX5.out) (B7.setW (OM.ext HO4'.out.mem HX5.out) HG.out d (by show d<W4.length;have:=HCW.out;omega) _) (A8.set_ (A8.refl _ _) (p:=⟨g4,d,none⟩) (Or.inl (Or.inr (Or.inl HG.out))) _)
 have hK6:A8 (Z3 b S X) w W6:=by
  rw[hW6];exact (HK4.out.ext_ HX5.out).set_ (p:=⟨g4,d,none⟩) (Or.inl (Or.inl (Or.inr (Or.inl HG.out)))) _
 have t6:W6.cell? ⟨H,0,none⟩=some (.int .i64 (B3 x)):=by
  rw[hW6,World.cell?_setCell_far _ _ _ _ (by simp only;omega)];exact HX5.out.cell_ v0
 clear hW6 v0 gc gf u3 uf;have HNEW:Hid (K0 C.mv (j:Int)=none):=HN.out;obtain⟨w7,hrun7,hm7,hb7⟩:=B2l (P:=Tryz.prog) B1b A8r hO6.map (j:Int) (.int .i64 (d:Int));have hO7:=G7.put hO6 (j:Int) (d:Int) HNEW.out hm7 hb7;have hK7:A8 (Z3 b S X) w w7:=hK6.trans ((A8.of_but hb7).sub fun k hk=>by subst hk;exact Or.inr (Or.inr (Or.inl rfl)));have hHmb:¬H=X.mb:=fun e=>by have:=HO.out.map.lt;omega
 have t7:w7.cell? ⟨H,0,none⟩=some (.int .i64 (B3 x)):=(A8.of_but hb7).cell (p:=⟨H,0,none⟩) hHmb t6;have f0:=hO6.f0;have f4:=hO6.f4;have HO7:=Hz hO7;have HK7:=Hz hK7;clear hO6 hK6 hm7 hb7 hO7 hK7 t6;have HFIN:Hid (∀ td,{C with M:={C.M with W:=W4.set d (J7 (B3 x) 0 (G5 x) (B5 x)),oldTop:=C.M.oldTop+(1+B5 x)},mv:=C.mv++[((j:Int),(d:Int))],todo:=td}={L6 C j with todo:=td}):=fun td=>by
  have hx:=HX.out;have hage':C.ten≤F4 (A6 C.M.W j):=by rw[←hx];exact HAGE.out
  have hto:U4 C j=(d:Int):=by rw[HTO.out,HD2.out]
  have hn:(B5 x).toNat=n:=by rw[HN2.out];rfl
  simp only[L6,B4j,hto,if_pos hage',←hx,Int.toNat_natCast,hn,HW4.out];simp only[if_pos HAGE.out]
 cases hr:D2 (B3 x) with
 | true =>
  have HR:=Hz hr;clear hr
  go_wp2_with (go_at_call 89;refine (A3l _ _).mono ?_;rintro e w' ⟨he,rfl⟩;rw[HR.out] at he;subst he)
  go_ret;refine⟨rfl,X,rfl,rfl,?_,HK7.out,fun k hk=>Or.inl hk⟩;have e:L6 C j={L6 C j with todo:=C.todo}:=by
   simp only[L6,←HX.out,HR.out,if_true]
  rw[e,←HFIN.out];exact HO7.out
 | false =>
  have HR:=Hz hr;obtain⟨i0,hi,hz0,hz1,hz2⟩:=info_parts B6y;have hfew:=HFEW.out;have htl:(K6 C.todo).length=C.todo.length:=by simp[K6]
  obtain⟨v9,w9,hrun9,ht9,hg9,hv9⟩:=B2k (P:=Tryz.prog) (w:=w7.alloc (.cells #[.int .i64 (d:Int)] 3)) 22 22 B 3 i0 (.int .i64 0) 8 B5g hi hz0 hz1 hz2 rfl X.tv (K6 C.todo) (HO7.out.td.ext ((A0.refl _).alloc_ _)) ⟨w7.heap.size,0,none⟩ 1 (.int .i64 (d:Int)) (by simp[go_sem]) rfl (by rw[htl];unfold maxLen;omega) (by rw[htl];omega) (by have:=HO7.out.cB;have:=HO7.out.clt;simp;omega);obtain⟨a9,n9,c9,rfl⟩:=ht9.slice;have hK9:A8 (fun k=>X.tv.ownBlock=some k) w7 w9:=((A8.refl _ w7).alloc_ _).trans (A8.of_grown hg9 fun k hk=>Or.inl hk);have hcT:¬X.tv.ownBlock=some X.c:=fun e=>(HO7.out.tN _ e).2.1 rfl
  have y5:w9.cell? ⟨X.c,5,none⟩=some X.tv:=hK9.cell (p:=⟨X.c,5,none⟩) hcT HO7.out.f5;have yf:w9.frozen? ⟨X.c,5,none⟩=false:=by rw[hK9.frozen (p:=⟨X.c,5,none⟩) hcT HO7.out.clt];exact HO7.out.frozen 5
  have hv9':∀ k,(Value.slice a9 n9 c9).ownBlock=some k→X.tv.ownBlock=some k∨w7.heap.size≤k:=fun k hk=>by
   rcases hv9 k hk with q|q
   ·exact Or.inl q
   ·exact Or.inr (by simp at q;omega)
  have hO9:=G7.work HO7.out hK9 _ (C.todo++[(d:Int)]) (by simpa [K6] using ht9) hv9';have z5:=HO7.out.f5;have z7:=HO7.out.clt;obtain⟨ta,tn,tc,htv⟩:=HO7.out.td.slice;have HTV:=Hz htv;rw[htv] at hrun9 z5 y5;have HRUN:=Hz hrun9;clear htv hrun9;have HO9:=Hz hO9;have HK9:=Hz hK9;have HV9:=Hz hv9';clear hr hfew htl ht9 hg9 hv9 hK9 hcT hv9' hO9 hz0 hz1 hz2 hi
  go_wp2_with (first
   | (go_at_call 89;refine (A3l _ _).mono ?_;rintro e w' ⟨he,rfl⟩;rw[HR.out] at he;subst he)
   | (at_builtin;refine B5j rfl _ _ 22 rfl (.slice ta tn tc) _ rfl rfl HRUN.out ?_))
  go_ret;refine⟨rfl,{X with tv:=.slice a9 n9 c9},rfl,rfl,?_,?_,fun k hk=>?_⟩
  ·have e:L6 C j={L6 C j with todo:=C.todo++[(d:Int)]}:=by
    have hto:U4 C j=(d:Int):=by rw[HTO.out,HD2.out]
    simp only[L6,←HX.out,HR.out,hto];rfl
   rw[e,←HFIN.out];exact HO9.out
  ·exact ((HK7.out.trans (HK9.out.sub fun k hk=>Or.inr (Or.inr (Or.inr hk)))).set_ (p:=⟨X.c,5,none⟩) (Or.inl (Or.inr (Or.inl rfl))) _)
  ·rcases hk with hk|hk|hk|hk
   ·exact Or.inl (Or.inl hk)
   ·exact Or.inl (Or.inr (Or.inl hk))
   ·exact Or.inl (Or.inr (Or.inr (Or.inl hk)))
   ·rcases HV9.out k hk with q|q
    ·exact Or.inl (Or.inr (Or.inr (Or.inr q)))
    ·exact Or.inr (Nat.le_trans HK7.out.size q)
end Go.Proofs.YtelhoppfidibiaaGreatDoor
