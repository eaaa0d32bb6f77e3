/- The walk of the minor collector's Collect. -/
import Derived.Test.YtelhoppfidibiaaGreatDoorJXa15
import Derived.Deep.Cut
set_option linter.unusedSimpArgs false
set_option linter.unusedVariables false
set_option maxHeartbeats 16000000
set_option maxRecDepth 100000
namespace Go.Proofs.YtelhoppfidibiaaGreatDoor
open Go.RowKit
open Int renaming toNat_natCast→Za
open IntWalk renaming i64_in→Zb
open Nat renaming le_refl→Zc,le_trans→Zd,zero_add→Ze
theorem D7s (B b:Nat) (M:A7) (S:C8) (E:Nat→Addr) (ten:Int) (w:World) (hO:B7 w B b 140 M S) (hE:G3 E w) (hr:J8 M ten) (hB:B≤w.heap.size) (hgb:0<B∧3<B) :
  Calls Tryz.prog 44 #[.pointer (some ⟨b,0,none⟩),.int .i64 ten] w (C3o w B b S (A5j M ten)):=by
 have hs:=hr.shp;have HC:Hid (F1 E (chk M)=.nilIface):=by rw[Hid,hr.chk];rfl
 obtain⟨t0,t1⟩:=hr.ten;have hroom:=hr.room;have hM:=hO.mem hr.ok;have HM:=Hz hM;have HO:=Hz hO;have HE:=Hz hE;have HR:=Hz hr;have HS:=Hz hs;have s1:=hs.h1;have s2:=hs.h2;have s3:=hs.o1;have s4:=hs.o2;have s5:=hs.t1;have s6:=hs.t2;have s7:=hs.p1;have s8:=hs.p2;have s9:=hs.u1;have s10:=hs.u2;clear hM hO hE hr hs;obtain⟨o,ho0⟩:∃ o:Nat,o=0:=⟨0,rfl⟩
 go_enter Tryz.func44,Tryz.ntmps44
 go_wp2_with (first
  | (go_at_call 90;refine (B5x b 0 M S E _ HM.out HE.out).mono ?_;rintro e w1 ⟨he,hq⟩;rw[HC.out] at he;subst he;have HE1:=Hz hq;clear hq))
 have hM1:=HM.out.ext HE1.out;have d1:=hM1.old;have d6:=hM1.oldTop;have d5:=hM1.top;have e1:IntKind.i64.wrap (M.old-M.oldTop)=M.old-M.oldTop:=Zb _ (by omega);have e2:¬M.old-M.oldTop<M.top:=by omega
 clear hM1;go_region;go_wp2;have hM1:=HM.out.ext HE1.out;have d4:=hM1.used;have d0:=hM1.half;have d7:=hM1.roots;have hbw:=hM1.lt;clear hM1 d1 d5;have e3:IntKind.i64.wrap (1-M.used)=1-M.used:=Zb _ (by omega);have e4:IntKind.i64.wrap ((1-M.used)*M.half)=(1-M.used)*M.half:=by
  have hu:M.used=0∨M.used=1:=by omega
  rcases hu with e|e<;>rw[e]<;>exact Zb _ (by omega)
 obtain⟨lo,hlo⟩:∃ n:Nat,n=D1 M:=⟨_,rfl⟩;obtain⟨hi,hhi⟩:∃ n:Nat,n=D1 M+M.oldTop.toNat:=⟨_,rfl⟩;have hloz:(lo:Int)=2*M.half:=by rw[hlo];unfold D1;omega
 have hhiz:(hi:Int)=2*M.half+M.oldTop:=by rw[hhi];unfold D1;omega
 have e5:IntKind.i64.wrap (2*M.half)=(lo:Int):=by rw[hloz];exact Zb _ (by omega)
 have e6:IntKind.i64.wrap ((lo:Int)+M.oldTop)=(hi:Int):=by rw[hhiz,hloz];exact Zb _ (by omega)
 have HLO:=Hz hlo;have HHI:=Hz hhi;have HLOZ:=Hz hloz;have HHIZ:=Hz hhiz;clear hlo hhi hloz hhiz;have hmm:=@run_makeMap Tryz.prog;go_region;go_wp2;go_region;go_wp2;obtain⟨hAt0,hX0⟩:=E8u (ten:=ten) HO.out HE1.out hB;refine P4 (fun W3 hW3=>?_);rw[←hW3] at hAt0 hX0;have c0:=hAt0.col.clt;obtain⟨⟨can1,can2,can3⟩,k1,k2,k3,k4,k5,D,i1,i2,i3,i4⟩:=C4k HR.out;generalize hcc:w1.heap.size+1=cc at *
 obtain⟨X0,hX0e⟩:∃ X:Pl,X=⟨cc,w1.heap.size,.slice none 0 0⟩:=⟨_,rfl⟩;rw[←hX0e] at hAt0;have hX0c:X0.c=cc:=by rw[hX0e]
 have hX0m:X0.mb=w1.heap.size:=by rw[hX0e]
 have hX0t:X0.tv=.slice none 0 0:=by rw[hX0e]
 have HCCW:Hid (w.heap.size≤cc∧w.heap.size≤w1.heap.size):=⟨by have:=HE1.out.size;omega,HE1.out.size⟩;have HX0c:=Hz hX0c;have HX0m:=Hz hX0m;have HX0t:=Hz hX0t;have HAT0:=Hz hAt0;have HEX0:=Hz hX0;have HC1:=Hz can1;have HC2:=Hz can2;have HC3:=Hz can3;have HK1:=Hz k1;have HK2:=Hz k2;have HK3:=Hz k3;have HK4:=Hz k4;have HK5:=Hz k5;have HI1:=Hz i1;have hlR:=HR.out.ok.lenR;clear can1 can2 can3 k1 k2 k3 k4 k5 i1 i2 i3 i4 hX0e hX0c hX0m hX0t hAt0 hX0 hW3 hmm d0 d4 d6 d7 e1 e2 e3 e4 e6 hcc c0
 go_loopw [86] (fun i wr=>∃ (k:Nat) (C1:D9) (X1:Pl),k≤M.roots.length∧i=.int .i64 (k:Int)∧Hid (At W3 B b S X0 X1 C1 wr)∧Hid (B5n C1 k (M.roots.length-k))∧Hid (A9q C1 k (M.roots.length-k)=A1d M ten)∧Hid (C1.M.roots.length=M.roots.length))
  (fun i _=>M.roots.length-(intOf i).toNat)
 case atStart=>exact⟨0,_,_,Nat.zero_le _,rfl,HAT0,HC1,rfl,rfl⟩
 case round =>
  obtain⟨k,C1,X1,hk,rfl,hA,hF,hR,hL⟩:=hrel;by_cases hlt:k<M.roots.length
  ·have hltz:(k:Int)<(M.roots.length:Int):=by omega
   obtain⟨m,hm⟩:∃ m,M.roots.length-k=m+1:=⟨M.roots.length-k-1,by omega⟩;rw[hm] at hF hR;obtain⟨⟨c1,c2,c3⟩,c4,c5,c6,c7,c9⟩:=hF.out;have hMC:=hA.out.col.mem.mem c2;obtain⟨g,hg,hgB,hgl,hgf,hgc,-⟩:=Q3 hA.out.col.mem.fR (by omega);have q7:=hMC.roots;simp only[Ze] at q7;rw[hg,hL.out] at q7;have hcell:wr.cell? ⟨g,k,none⟩=some (.int .u64 (C1.M.roots.getD k 0)):=by
    have:=hMC.rR;rw[hg] at this;simpa using this.at_ (K2 C1.M.roots k c1)
   have hgne:g≠b:=fun e=>by
    have:=(hA.out.col.mem.fld ⟨7,78,1,S.R.1,C1.M.roots.length,S.R.2,C5 C1.M.roots⟩ (by simp[F3])).2.2;simp[I6.val,hg,Value.ownBlock] at this;exact this e
   have hxr:=Y1 (P:=fun x=>0≤x∧x≤18446744073709551615) c2.roots c1;have hcx:X1.c=cc:=hA.out.c.trans HX0c.out;have HA:=Hz hA.out;have H1:=Hz c1;have H2:=Hz c2;have H3:=Hz c3;have H4:=Hz c4;have H5:=Hz c5;have H6:=Hz c6;have H7:=Hz c7;have H9:=Hz c9;have HG:=Hz hg;have HXR:=Hz hxr;have HM2:=Hz hm;have HCX:=Hz hcx;have HGN:=Hz hgne;rw[hg];clear c2 c3 c4 c5 c6 c7 c9 hA hF hMC hg hgf hgB hgc hxr hm hgl c1 hcx hgne;go_wp2;clear hcell;refine wp_region_held_drew (S:=fun W=>W.cell? ⟨b,7,none⟩=some (.slice (some ⟨g,0,none⟩) M.roots.length S.R.2)) (by kernel_rfl) ?_ (fun hH=>?_)
   ·exact q7
   refine tJ 0 91 rfl ?_
   try simp only[A5]
   refine tJ 1 92 rfl ?_
   try simp only[A5]
   refine tJ 2 93 rfl ?_
   try simp only[A5]
   refine tJ 3 94 rfl ?_
   try simp only[A5]
   refine tJ 4 95 rfl ?_
   try simp only[A5]
   refine tJ 5 96 rfl ?_
   try simp only[A5]
   refine tJ 6 97 rfl ?_
   try simp only[A5]
   refine wpAnyH_ready (rs:=[7]) (by kernel_rfl) (by simp) ?_;refine AllReadyH.cons (o:=⟨some 98,_,_,_,_,_⟩) rfl (fun K hK=>?_) AllReadyH.nil;go_simp;refine (C0e cc B b C1 S X1 HCX.out (C1.M.roots.getD k 0) HXR.out.1 HXR.out.2 _ (HA.out.col.ext eX) H2.out H3.out H4.out).mono ?_;rintro e w9 ⟨rfl,hq⟩;obtain⟨X2,hA2⟩:=At.of_step ((HA.out.ext eX).step hq);have HL2:Hid ((F9 C1 (C1.M.roots.getD k 0)).2.M.roots.length=M.roots.length):=by
    have h:=E0o H4.out;unfold Hid;rw[h];exact hL.out
   have q9:=(hA2.col.mem.mem H6.out).roots;simp only[Ze] at q9;rw[HG.out,HL2.out] at q9;have hfz:∀ j,w9.frozen? ⟨g,j,none⟩=false:=fun j=>by
    obtain⟨g',hg',-,-,hf,-⟩:=Q3 hA2.col.mem.fR (by rw[HL2.out];omega);rw[HG.out] at hg';injection hg' with hg';injection hg' with hg';subst hg';exact hf j
   have hcc9:∃ u,w9.cell? ⟨g,k,none⟩=some u:=by
    have:=(hA2.col.mem.mem H6.out).rR;rw[HG.out] at this;exact⟨_,by simpa using this.at_ (K2 (F9 C1 (C1.M.roots.getD k 0)).2.M.roots k (by rw[HL2.out];omega))⟩
   obtain⟨u9,hu9⟩:=hcc9;have hf9:=hfz k;have HA2:=Hz hA2;clear hq hA2 hfz;refine hK.out _ _ ?_ (fun hH=>?_)
   ·(try dsimp only);exact q9
   clear hK K
   try simp only[A5]
   refine tJ 8 99 rfl ?_
   try simp only[A5]
   refine wpAnyH_ready (rs:=[9]) (by kernel_rfl) (by simp) ?_;refine AllReadyH.cons (o:=⟨none,_,_,_,_,_⟩) rfl (fun K hK=>?_) AllReadyH.nil;go_simp;obtain⟨X3,hA3⟩:=At.of_step ((HA2.out.ext eX).step (F1i (HA2.out.ext eX).col HG.out k (by rw[HL2.out];omega) (F9 C1 (C1.M.roots.getD k 0)).1));have HA3:=Hz hA3;clear hA3;refine hK.out _ _ ?_ (fun hH=>?_)
   ·(try dsimp only);rw[World.cell?_setCell_far _ _ _ _ (by have:=HGN.out;simp only;omega)];exact q9
   clear hK K
   try simp only[A5]
   refine wpAnyH_done (by kernel_rfl) ?_ _;clear hH;go_wp2
   go_roundw
   case rel =>
    have hm:=HM2.out;refine⟨k+1,_,X3,by omega,by go_num,HA3.out,?_,?_,?_⟩
    ·rw[show M.roots.length-(k+1)=m by omega];exact H9.out
    ·rw[show M.roots.length-(k+1)=m by omega];exact hR.out
    ·show (List.set _ _ _).length=_;rw[List.length_set,HL2.out]
   case measure =>
    simp[intOf];omega
  ·have hltz:¬(k:Int)<(M.roots.length:Int):=by omega
   obtain rfl:k=M.roots.length:=by omega
   rw[Nat.sub_self] at hR;have hR':C1=A1d M ten:=hR.out;subst hR';clear hR hF hlt;have hM4:=hA.out.col.mem.mem HK4.out;have d0:=hM4.half;rw[HK3.out.half] at d0;have hbr:=hM4.lt;have hWl:(A1d M ten).M.W.length=M.W.length:=HK3.out.lenW;have hgB:=C3z HAT0.out.col hA.out hgb.1 (HEX0.out.cell_ HE.out.bound);have hgS:=C3z HAT0.out.col hA.out hgb.2 (HEX0.out.cell_ HE.out.shape);have hFV:A0l (wr.alloc (.cells #[.slice none 0 0] 22)) wr.heap.size wr.heap.size [] (.slice none 0 0) :=
    ⟨Zc _,⟨_,_,heap_alloc_new wr _⟩,by simp[go_sem],Or.inl ⟨rfl,rfl⟩,by simp[Value.ownBlock]⟩
   have hin:lo≤hi∧hi≤(A1d M ten).M.W.length∧(A1d M ten).M.W.length≤196608:=by
    have h1:=HS.out.w;have h2:=HLOZ.out;have h3:=HHIZ.out;rw[hWl];exact⟨by omega,by omega,by omega⟩
   have hpt:(part (A1d M ten).M.W lo hi).2=true:=by
    rw[HLO.out,HHI.out,HK2.out];exact (B0v HR.out.objs).2
   have HM4:=Hz hM4;have HGB:=Hz hgB;have HGS:=Hz hgS;have HFV:=Hz hFV;have HIN:=Hz hin;have HPT:=Hz hpt;have HAr:=Hz hA.out;clear hM4 hgB hgS hFV hin hpt hWl hA
   go_upto_region 17 with (go_at_call 92;refine (E0x wr b 0 (A1d M ten).M S HM4.out (E 1) (E 2) HGB.out HGS.out _ ((A0.refl _).alloc_ _) wr.heap.size _ HFV.out lo hi HIN.out.1 HIN.out.2.1 HIN.out.2.2 HPT.out).mono ?_;rintro e w5 ⟨rfl,v5,hq1,hq2⟩;have HQ1:=Hz hq1;have HQ2:=Hz hq2;clear hq1 hq2)
   have hx5:A0 wr w5:=A0.keep ((A0.refl wr).alloc_ _) HQ2.out fun i h=>h
   have hA5:=HAr.out.ext hx5;obtain⟨fa,fn,fc,rfl⟩:=HQ1.out.row.slice;have hclen:0<M.cards.length:=by
    have:=HS.out.card (2*M.half) (Int.le_refl _) (by omega);omega
   have hM5:=hA5.col.mem.mem HK4.out;have y10:=hM5.cards;simp only[Ze] at y10;rw[HK1.out] at y10;obtain⟨gc,hgc,hgcB,hgcl,hgcf,hgcc,-⟩:=Q3 hA5.col.mem.fC (by rw[HK1.out];exact hclen);rw[hgc] at y10;have hrC:=hM5.rC;rw[hgc,HK1.out] at hrC;have hcapC:=hM5.capC;rw[HK1.out] at hcapC;obtain⟨i4,hi4,hz0,hz1,hz2⟩:=info_parts C6u;have hlC:=HS.out.cl;have hcl6:M.cards.length≤200000:=by
    have h1:=HS.out.c1;have h2:(M.old+M.card-1)/M.card≤(M.old+M.card-1):=by
     rcases Int.lt_or_le (M.old+M.card-1) 0 with q|q
     ·omega
     ·exact Int.ediv_le_self _ q
    have h3:=HS.out.c2;omega
   have HA5:=Hz hA5;have HX5:=Hz hx5;have HGC:=Hz hgc;have HGCB:=Hz hgcB;have HGCL:=Hz hgcl;have HRC:=Hz hrC;have HCL:=Hz hclen;have HCL6:=Hz hcl6;have HCAPC:=Hz hcapC;have y98:=HQ1.out.cell;have hfb5:=HQ1.out.lt;clear hA5 hx5 hM5 hgc hgcB hgcl hgcf hgcc hrC hclen hlC hcl6 hcapC d0 e5
   go_wp2_with (at_builtin;refine A5e rfl _ _ 64 rfl w5.heap.size 4 i4 (.bool false) 1 1 B8o hi4 hz0 hz1 hz2 rfl (by decide) _ 0 [] rfl (World.ownsRow_nil _ _ _ _) (some ⟨gc,0,none⟩) M.cards.length S.C.2 (R7 M.cards) rfl (fun h=>by cases h) HCAPC.out (B9n _) HRC.out (B9o _) ?c3 ?c4 (Zc _) ?_)
   case c3=>have:=HCL6.out;unfold maxLen;omega
   case c4=>have:=HCL6.out;omega
   intro wa wc w6 hown hgrow hat
   have hx6:A0 w5 w6:=Below.grown (A0.refl w5) hgrow (Zc _) (fun g hg=>by cases hg);have hA6:=HA5.out.ext hx6;obtain⟨gc',hgc',-,-,-,hgcc',cur,hcur,hcurl,-⟩:=Q3 hA6.col.mem.fC (by rw[HK1.out];exact HCL.out);rw[HGC.out] at hgc';injection hgc' with hgc';injection hgc' with hgc';subst hgc';rw[HK1.out] at hgcc';obtain⟨w7,hrun7,hw7,hb7⟩:=D1h (P:=Tryz.prog) 64 4 (.bool false) B8o B8z rfl rfl gc M.cards.length S.C.2 cur HCL.out hcur (by omega);have y10':=hx6.cell_ y10;have y98':w7.cell? ⟨wr.heap.size,0,none⟩=some (.slice fa fn fc):=by
    rw[World.cell?_of_block (w:=w6) (a:=⟨wr.heap.size,0,none⟩) (hb7.block _ (by have:=HAr.out.col.mem.own_size (show G1 b S gc from Or.inr (Or.inr (Or.inr (Or.inr (Or.inr HGC.out)))));simp only;omega))];exact hx6.cell_ y98
   have hw7s:w7.heap.size=w6.heap.size:=hb7.size;have hA7:At W3 B b S X0 X1 (B1o M ten) w7:=D7b hA6 HGC.out hcur (by rw[HK1.out]) hb7 hw7;have HA7:Hid (At w7 B b S X1 X1 (B1o M ten) w7):=B3e hA7;have HA7b:=Hz hA7;have HPROT:Hid (∀ k,Z3 b S X1 k→k<wr.heap.size):=fun k hk=>HAr.out.col.ownC_size hk
   have hgcw:gc<wr.heap.size:=HPROT.out gc (Or.inl (Or.inr (Or.inr (Or.inr (Or.inr (Or.inr HGC.out))))));have HFAB:Hid (∀ x,fa=some x→wr.heap.size≤x.block):=fun x hx=>(HQ1.out.row.lt (k:=x.block) (by rw[hx];rfl)).1
   obtain⟨hfn,hRfa⟩:=HQ1.out.row.read;have hfn':fn=(A2g M).length:=by
    rw[hfn];have:B3x (A1d M ten).M.W lo hi=A2g M:=by
     have e:(2*M.half+M.oldTop).toNat=(2*M.half).toNat+M.oldTop.toNat:=by omega
     unfold B3x A2g;rw[HLO.out,HHI.out,HK2.out,e];rfl
    rw[this];simp[K6]
   have hRfa7:F7 w7 fa (K6 (A2g M)):=by
    have:B3x (A1d M ten).M.W lo hi=A2g M:=by
     have e:(2*M.half+M.oldTop).toNat=(2*M.half).toNat+M.oldTop.toNat:=by omega
     unfold B3x A2g;rw[HLO.out,HHI.out,HK2.out,e];rfl
    rw[this] at hRfa;exact (hRfa.ext hx6).keep (A8.of_but hb7) fun x hx e=>by have:=HFAB.out x hx;omega
   have hw5r:=HX5.out.size;have HWAB:Hid (∀ x,wa=some x→wr.heap.size≤x.block):=fun x hx=>by
    have:=(hown.lt x.block (by rw[hx];rfl)).1;omega
   have hRwa7:F7 w7 wa (R7 M.cards):=by
    have h1:=(R4 (n:=M.cards.length) hown).1;exact F7.keep (by simpa using h1) (A8.of_but hb7) fun x hx e=>by have:=HWAB.out x hx;omega
   have HRF7:=Hz hRfa7;have HRW7:=Hz hRwa7;have HCARDS6:=HCL6.out;subst hfn';have hwcap:M.cards.length≤wc:=by have h:=(R4 (n:=M.cards.length) hown).2.1;omega
   clear hfn hRfa hRfa7 hRwa7 hgcw hw5r;clear y98 y10 hown hgrow hat hx6 hA6 hcur hcurl hgcc' hw7 hA7 hb7;go_wp2;clear y98' y10' hrun7 hw7s hi4 hz0 hz1 hz2 HQ1 HQ2 HFV HPT HIN HGB HGS HM4 HRC HA5 HX5 hfb5;obtain⟨wA,rfl⟩:∃ x,x=wr:=⟨wr,rfl⟩;obtain⟨L,hL⟩:∃ L,L=A2g M:=⟨_,rfl⟩;rw[←hL] at HRF7 HC2 ⊢;have HLE:=Hz hL;have hLlen:L.length≤1000000:=by
    have h1:=HR.out.shp.w;rw[hL];unfold A2g;rw[List.length_map];refine Zd (List.length_filter_le _ _) (Zd (A9n M.W _ _ _) ?_);omega
   clear hL;have HOLD:Hid (A6l M.cards (B1o M ten) L=A7v M ten):=by unfold Hid A7v;rw[HLE.out]
   go_loopw [121] (fun i wq=>∃ (k:Nat) (C2:D9) (X2:Pl),k≤L.length∧i=.int .i64 (k:Int)∧Hid (At w7 B b S X1 X2 C2 wq)∧Hid (B2w M.cards C2 (L.drop k))∧Hid (A6l M.cards C2 (L.drop k)=A7v M ten))
    (fun i _=>L.length-(intOf i).toNat)
   case atStart=>exact⟨0,_,_,Nat.zero_le _,rfl,HA7,HC2,HOLD⟩
   case round =>
    obtain⟨k,C2,X2,hk,rfl,hA,hF,hR⟩:=hrel;by_cases hlt:k<L.length
    ·have hltz:(k:Int)<(L.length:Int):=by omega
     have hdrop:L.drop k=L[k]::L.drop (k+1):=List.drop_eq_getElem_cons hlt;rw[hdrop] at hF hR;obtain⟨⟨a0,a1,a2,a3,a4,a5⟩,b1,b2⟩:=hF.out;have hRq:=HRF7.out.keep hA.out.keep fun x hx hk=>by
      have h1:=HFAB.out x hx;have h2:=HPROT.out _ hk;omega
     obtain⟨fb,fo,rfl,hcf⟩:=hRq k (.int .i64 L[k]) (by simp[K6,hlt]);obtain⟨n,hn⟩:∃ n:Nat,L[k]=(n:Int):=⟨L[k].toNat,by omega⟩;rw[hn] at hcf a1 a2 a5 b1 b2 hR;rw[Za] at a2 a5 b1 b2;have hMq:=hA.out.col.mem.mem a3;obtain⟨g,hg,hgB,hgl,hgf,hgc,-⟩:=Q3 hA.out.col.mem.fW (by omega);have y3:=hMq.W;simp only[Ze] at y3;rw[hg] at y3;have hcw:wr.cell? ⟨g,n,none⟩=some (.int .u64 (A6 C2.M.W n)):=by
      have:=hMq.rW;rw[hg] at this;simpa [A6] using this.at_ (K2 C2.M.W n a2)
     have hnz:(n:Int)<(C2.M.W.length:Int):=by omega
     have hxr:=O6 a3 n;have hsz4:B5 (A6 C2.M.W n)≤4096:=((A1v (A6 C2.M.W n)).1 a5).2.2;have HN1:Hid (n≤1000000):=by unfold Hid;omega
     have hsz0:=(Z9 (A6 C2.M.W n) hxr.1).2.2.2.2.2.2;have f1:IntKind.i64.wrap ((n:Int)+1)=((n+1+0:Nat):Int):=by rw[Zb _ (by omega)];omega
     have HA:=Hz hA.out;have HB1:=Hz b1;have HB2:=Hz b2;have HR2:=Hz hR.out;have HXR:=Hz hxr;have HHD:=Hz a5;have HN:=Hz hn;have HCO2:=Hz a3;clear hA hF hR hdrop hMq hg hgB hgl hgf hgc hRq a0 a1 a2 a3 a4 a5 b1 b2 hxr hn
     go_wp2_with (go_at_call 56;refine (A3d _ HXR.out.1 HXR.out.2 HHD.out _).mono ?_;rintro e w8 ⟨rfl,hq⟩;have HX8:=Hz hq;clear hq)
     obtain⟨wq,rfl⟩:∃ x,x=wr:=⟨wr,rfl⟩;refine P4 (fun w9 hw9=>?_);have hx9:A0 wq w9:=by rw[hw9];exact HX8.out.alloc_ _
     have hA9:=HA.out.ext hx9;have h93:w9.cell? ⟨w8.heap.size,3,none⟩=some (.int .i64 (B5 (A6 C2.M.W n))):=by rw[hw9];simp[go_sem]
     have hHb9:w8.heap.size<w9.heap.size:=by rw[hw9];simp
     have hwq8:=HX8.out.size;have HPR2:Hid (∀ k,Z3 b S X2 k→k<w8.heap.size):=fun k hk=>Nat.lt_of_lt_of_le (HA.out.col.ownC_size hk) hwq8
     clear hw9 hwq8 hcf hcw y3 hnz f1;generalize w8.heap.size=Hb at *
     obtain⟨N,hN⟩:∃ N:Nat,B5 (A6 C2.M.W n)=(N:Int):=⟨(B5 (A6 C2.M.W n)).toNat,by omega⟩;rw[hN] at h93 hsz4;have HB1':=HB1.out;have HB2':=HB2.out;have HR2':=HR2.out;have hoc:A6l M.cards C2 ((n:Int)::L.drop (k+1))=A6l M.cards (A1a M.cards C2 (n+1) N) (L.drop (k+1)):=by
      show A6l M.cards (A1a M.cards C2 ((n:Int).toNat+1) (B5 (A6 C2.M.W (n:Int).toNat)).toNat) (L.drop (k+1))=_;rw[Za,hN,Za]
     rw[hoc] at HR2';rw[hN,Za] at HB1' HB2';have HB3:=Hz HB1';have HB4:=Hz HB2';have HR4:=Hz HR2';have HA9:Hid (At w9 B b S X2 X2 C2 w9):=B3e hA9;have HA9b:=Hz hA9;have HH3:=Hz h93;have hRw9:F7 w9 wa (R7 M.cards):=(HRW7.out.keep HA.out.keep fun x hx hk=>by
      have h1:=HWAB.out x hx;have h2:=HPROT.out _ hk;omega).ext hx9
     have HRW9:=Hz hRw9;have hNN:N≤4096:=by omega
     have HHb9:=Hz hHb9;have HWB2:Hid (∀ x,wa=some x→¬Z3 b S X2 x.block):=fun x hx hk=>by
      have h1:=HWAB.out x hx;rcases HA.out.own _ hk with q|q
      ·have h2:=HPROT.out _ q;omega
      ·have h2:=HRW7.out;obtain⟨_,_,hx3,hc3⟩:=HRW7.out 0 (.bool (M.cards.getD 0 false)) (B3h M.cards 0 HCL.out);rw[hx] at hx3;injection hx3 with hx3;have:=B9 hc3;rw[hx3] at q;simp only at this q;omega
     clear HB1 HB2 HR2 HB1' HB2' HR2' hoc hA9 h93 hRw9 hHb9 hN hsz0 hx9 HX8 hsz4;have e2:IntKind.i64.wrap ((n:Int)+(N:Int))=(n:Int)+(N:Int):=Zb _ (by have:=HN1.out;omega)
     go_loopw [16] (fun i wr=>∃ (j:Nat) (C3:D9) (X3:Pl),j≤N∧i=.int .i64 ((n+1+j:Nat):Int)∧Hid (At w9 B b S X2 X3 C3 wr)∧Hid (B2v M.cards C3 (n+1+j) (N-j))∧Hid (A1a M.cards C3 (n+1+j) (N-j)=A1a M.cards C2 (n+1) N))
      (fun i _=>n+1+N-(intOf i).toNat)
     case atStart=>exact⟨0,_,_,Nat.zero_le _,(by go_num),HA9,HB3,rfl⟩
     case round =>
      obtain⟨j,C3,X3,hj,rfl,hA,hF,hR⟩:=hrel;have h93:wr.cell? ⟨Hb,3,none⟩=some (.int .i64 (N:Int)):=hA.out.keep.cell (fun hk=>by have:=HPR2.out _ hk;simp only at this;omega) HH3.out;by_cases hlt:j<N
      ·have hltz:((n+1+j:Nat):Int)≤(n:Int)+(N:Int):=by omega
       obtain⟨m,hm⟩:∃ m,N-j=m+1:=⟨N-j-1,by omega⟩;rw[hm] at hF hR;obtain⟨⟨c1,c2,c3,c4,c5,c6⟩,cT,cF⟩:=hF.out;obtain⟨i,hi⟩:∃ i,i=n+1+j:=⟨_,rfl⟩;rw[←hi] at c1 c4 c5 cT cF hR hltz ⊢;have hMr:=hA.out.col.mem.mem c2;have z0:=hMr.half;have z2:=hMr.card;simp only[Ze] at z2;have g1:=c3.h1;have g2:=c3.h2;have g3:=c3.c1;have g4:=c3.c2;have g5:=c3.o2;obtain⟨j0,j1⟩:=c3.card (i:Int) c4 c5;obtain⟨J,hJ⟩:∃ J:Nat,((i:Int)-2*C3.M.half)/C3.M.card=(J:Int):=⟨(((i:Int)-2*C3.M.half)/C3.M.card).toNat,by omega⟩;have hq:((i:Int)-2*C3.M.half).tdiv C3.M.card=(J:Int):=by rw[Int.tdiv_eq_ediv_of_nonneg (by omega)];exact hJ
       rw[hJ,←c6] at j1;have hJl:J<M.cards.length:=by omega
       have hci:A1q C3.M (i:Int)=J:=by unfold A1q;rw[hJ,Za]
       rw[hci] at cT cF;have hRw:=HRW9.out.keep hA.out.keep fun x hx=>HWB2.out x hx
       obtain⟨wb,wo,rfl,hcell⟩:=hRw J _ (B3h M.cards J hJl);have d1:IntKind.i64.wrap (2*C3.M.half)=2*C3.M.half:=Zb _ (by omega);have d2:IntKind.i64.wrap ((i:Int)-2*C3.M.half)=(i:Int)-2*C3.M.half:=Zb _ (by omega);have d3:IntKind.i64.wrap ((J:Nat):Int)=(J:Int):=Zb _ (by omega);have d4:(C3.M.card==0)=false:=by simp;omega
       have d5:¬C3.M.card=0:=by omega
       have d6:(J:Int)<(M.cards.length:Int):=by omega
       have d7:IntKind.i64.wrap ((i:Int)+1)=((i+1:Nat):Int):=by rw[Zb _ (by omega)];omega
       have HA3:=Hz hA.out;have HC3:=Hz c2;have HS3:=Hz c3;have HI:=Hz hi;have HM2:=Hz hm;have HR3:=Hz hR.out;have HL1:=Hz c1;have HCI:=Hz hci;have HN2:=HN1.out;have hcx:X3.c=cc:=hA.out.c.trans (HA.out.c.trans (HA7b.out.c.trans HX0c.out));have HCX:=Hz hcx;have f0:=hA.out.col.f0;rw[hcx] at f0;obtain⟨g,hg,hgB,hgl,hgf,hgc,-⟩:=Q3 hA.out.col.mem.fW (by omega);have q3:=hMr.W;simp only[Ze] at q3;rw[hg] at q3;have hcw:wr.cell? ⟨g,i,none⟩=some (.int .u64 (A6 C3.M.W i)):=by
        have:=hMr.rW;rw[hg] at this;simpa [A6] using this.at_ (K2 C3.M.W i c1)
       have hiz:(i:Int)<(C3.M.W.length:Int):=by omega
       have hxr:=O6 c2 i;have HXR3:=Hz hxr;clear hg hgB hgl hgf hgc hxr hcx;clear hA hF hR hMr hJ hRw hi hm c2 c3 c6 j0 j1 hci g1 g2 g3 g4 g5 c1
       cases hcd:M.cards.getD J false with
       | true =>
        have cT':=Hz (cT hcd);rw[hcd] at hcell;obtain⟨t1,t2,t3,t4,t5,t6⟩:=cT'.out;have H4:=Hz t1;have H5:=Hz t2;have H6:=Hz t3;have H7:=Hz t4;have H8:=Hz t5;have H9:=Hz t6;have HCJ:=Hz hcd;clear cT cF hcd cT' t1 t2 t3 t4 t5 t6;go_wp2
        go_quiet (fail)
        go_wp2;clear hcell d1 d2 d3 d4 d5 d6 z0 z2 hq;refine wp_region_held_drew (S:=fun W=>W.cell? ⟨cc,0,none⟩=some (.pointer (some ⟨b,0,none⟩))) (by kernel_rfl) ?_ (fun hH=>?_)
        ·exact f0
        refine tJ 0 161 rfl ?_
        try simp only[A5]
        refine tJ 1 162 rfl ?_
        try simp only[A5]
        refine tJ 2 163 rfl ?_
        try simp only[A5]
        refine tJ 3 164 rfl ?_
        try simp only[A5]
        refine tJ 4 165 rfl ?_
        try simp only[A5]
        refine tJ 5 166 rfl ?_
        try simp only[A5]
        refine tJ 6 167 rfl ?_
        try simp only[A5]
        refine tJ 7 168 rfl ?_
        try simp only[A5]
        refine tJ 8 169 rfl ?_
        try simp only[A5]
        refine tJ 10 171 rfl ?_
        try simp only[A5]
        refine wpAnyH_ready (rs:=[9]) (by kernel_rfl) (by simp) ?_;refine AllReadyH.cons (o:=⟨some 170,_,_,_,_,_⟩) rfl (fun K hK=>?_) AllReadyH.nil;go_simp;skip;refine hK.out _ _ ?_ (fun hH=>?_)
        ·(try dsimp only);exact f0
        clear hK K
        try simp only[A5]
        refine tJ 11 172 rfl ?_
        try simp only[A5]
        refine wpAnyH_ready (rs:=[12]) (by kernel_rfl) (by simp) ?_;refine AllReadyH.cons (o:=⟨some 173,_,_,_,_,_⟩) rfl (fun K hK=>?_) AllReadyH.nil;go_simp;skip;refine hK.out _ _ ?_ (fun hH=>?_)
        ·(try dsimp only);exact f0
        clear hK K
        try simp only[A5]
        refine wpAnyH_ready (rs:=[13]) (by kernel_rfl) (by simp) ?_;refine AllReadyH.cons (o:=⟨some 174,_,_,_,_,_⟩) rfl (fun K hK=>?_) AllReadyH.nil;go_simp;refine (C0e cc B b C3 S X3 HCX.out (A6 C3.M.W i) HXR3.out.1 HXR3.out.2 _ (HA3.out.col.ext eX) HC3.out HS3.out H4.out).mono ?_;rintro e w19 ⟨rfl,hq⟩;obtain⟨X4,hA4⟩:=At.of_step ((HA3.out.ext eX).step hq);have f9:=hA4.col.f0;rw[hA4.c,HA.out.c,HA7b.out.c,HX0c.out] at f9;have HA4':=Hz hA4;clear hq hA4;refine hK.out _ _ ?_ (fun hH=>?_)
        ·(try dsimp only);exact f9
        clear hK K
        try simp only[A5]
        refine wpAnyH_ready (rs:=[14]) (by kernel_rfl) (by simp) ?_;refine AllReadyH.cons (o:=⟨some 175,_,_,_,_,_⟩) rfl (fun K hK=>?_) AllReadyH.nil;go_simp;refine (C2y B b (F9 C3 (A6 C3.M.W i)).2.M S _ HA4'.out.col.mem H6.out H7.out i H8.out _ H5.out.1 H5.out.2).mono ?_;rintro e w20 ⟨rfl,hq1,hq2⟩;obtain⟨X5,hA5⟩:=At.of_step (HA4'.out.step (D2a HA4'.out.col hq1 hq2));have f10:=hA5.col.f0;rw[hA5.c,HA.out.c,HA7b.out.c,HX0c.out] at f10;have HA5':=Hz hA5;clear hq1 hq2 hA5;refine hK.out _ _ ?_ (fun hH=>?_)
        ·(try dsimp only);exact f10
        clear hK K
        try simp only[A5]
        refine wpAnyH_done (by kernel_rfl) ?_ _;clear hH f0 q3 hcw f9;go_wp2
        go_roundw
        case rel =>
         have hi:=HI.out;have hm:=HM2.out;have hr:=HR3.out;rw[A1a,HCI.out,HCJ.out] at hr;refine⟨j+1,_,X5,by omega,by go_num,HA5'.out,?_,?_⟩
         ·rw[show n+1+(j+1)=i+1 by omega,show N-(j+1)=m by omega];exact H9.out
         ·rw[show n+1+(j+1)=i+1 by omega,show N-(j+1)=m by omega];exact hr
        case measure =>
         have hi:=HI.out;simp[intOf];omega
       | false =>
        have cF':=Hz (cF hcd);have HCJ:=Hz hcd;rw[hcd] at hcell;clear cT cF hcd f0 q3 hcw;go_wp2
        go_quiet (fail)
        clear hcell d1 d2 d3 d4 d5 d6 z0 z2 hq;go_wp2
        go_roundw
        case rel =>
         have hi:=HI.out;have hm:=HM2.out;have hr:=HR3.out;rw[A1a,HCI.out,HCJ.out] at hr;refine⟨j+1,C3,X3,by omega,by go_num,HA3.out.ext (Y0 _ _),?_,?_⟩
         ·rw[show n+1+(j+1)=i+1 by omega,show N-(j+1)=m by omega];exact cF'.out
         ·rw[show n+1+(j+1)=i+1 by omega,show N-(j+1)=m by omega];exact hr
        case measure =>
         have hi:=HI.out;simp[intOf];omega
      ·have hltz:¬((n+1+j:Nat):Int)≤(n:Int)+(N:Int):=by omega
       obtain rfl:j=N:=by omega
       rw[Nat.sub_self] at hR;have hR':C3=A1a M.cards C2 (n+1) j:=hR.out;subst hR';have HA3:=Hz hA.out;clear hR hF hlt hA;go_wp2
       go_roundw
       case rel =>
        refine⟨k+1,_,X3,by omega,by go_num,?_,HB4.out,HR4.out⟩;exact B5s HA9b.out HA3.out
       case measure=>simp[intOf];omega
    ·have hltz:¬(k:Int)<(L.length:Int):=by omega
     obtain rfl:k=L.length:=by omega
     have hR':C2=A7v M ten:=by have:=hR.out;rw[List.drop_length] at this;exact this
     subst hR';have HA3:=Hz hA.out;obtain⟨wB,rfl⟩:∃ x,x=wr:=⟨wr,rfl⟩;have HAB:Hid (At W3 B b S X0 X2 (A7v M ten) wB):=B5s HA7b.out HA3.out;have HA4:Hid (At wB B b S X2 X2 (A7v M ten) wB):=B3e HA3.out;have hcx2:X2.c=cc:=HAB.out.c.trans HX0c.out;have HCX2:=Hz hcx2;clear hR hF hlt hA hcx2 HA3 HA7 HA7b HPROT HFAB HWAB HRF7 HRW7 HCARDS6 HCL6 HOLD HAr;go_wp2
     go_loopg [] (M.top.toNat) (fun r wr=>∃ (C4:D9) (X4:Pl),Hid (At wB B b S X2 X4 C4 wr)∧Hid (B1e r C4)∧Hid (A7i r C4=R9 M ten))
     case atStart=>exact⟨_,_,HA4,HC3,rfl⟩
     case round =>
      obtain⟨C4,X4,hA,hF,hR⟩:=hrel;have hcx:X4.c=cc:=hA.out.c.trans HCX2.out;have f5:=hA.out.col.f5;rw[hcx] at f5
      cases htd:C4.todo with
      | nil =>
       have htl:=hA.out.col.td;rw[htd] at htl;obtain⟨ta,tn,tc,htv⟩:=htl.slice;rw[htv] at htl f5;obtain⟨htn,-⟩:=htl.read;have htn0:tn=0:=by rw[htn];rfl
       subst htn0;have hR':C4=R9 M ten:=by
        have:=hR.out
        cases gk with
        | zero=>exact this
        | succ r=>unfold A7i at this;rw[htd] at this;exact this
       subst hR';have HA5:=Hz hA.out;have HCX4:=Hz hcx;clear hA hF hR hcx htl htv htd htn;obtain⟨wC,rfl⟩:∃ x,x=wr:=⟨wr,rfl⟩;have HAC:Hid (At W3 B b S X0 X4 (R9 M ten) wC):=B5s HAB.out HA5.out;have HA6:Hid (At wC B b S X4 X4 (R9 M ten) wC):=B3e HA5.out;have hLike:=HI1.out.like;have hShpK:=HI1.out.shp HR.out;have hOkK:=HI1.out.ok;have hidl:(R9 M ten).M.ids.length≤196608:=by rw[hLike.ids];exact C6q (L8 HR.out.chk).1
       obtain⟨KC,hK⟩:∃ KC,KC=R9 M ten:=⟨_,rfl⟩;rw[←hK] at HAC HA6 hLike hShpK hOkK hidl;have HKE:=Hz hK;have HLK:=Hz hLike;have HSK:=Hz hShpK;have HOK:=Hz hOkK;have HIDL:=Hz hidl;have y8:=(HA6.out.col.mem.mem hOkK).weak;simp only[Ze] at y8;have hlKw:=hOkK.lenK;have HWB:Hid (∀ x∈KC.M.weak,0≤x∧x≤18446744073709551615):=hOkK.weak;clear hLike hShpK hOkK hidl hK HA5 HAB HA4 HI1;obtain⟨sk,hsk⟩:∃ sk,S.K.1=sk:=⟨_,rfl⟩;rw[hsk] at y8;have HSKK:=Hz hsk;clear hsk;go_wp2;clear y8 f5
       go_loopg [218] (KC.M.weak.length) (fun r i wr=>∃ (k:Nat) (X5:Pl),k+r=KC.M.weak.length∧i=.int .i64 (k:Int)∧Hid (At wC B b S X4 X5 (Y3 KC k) wr))
       case atStart=>exact⟨0,X4,by omega,rfl,by rw[F8w];exact HA6⟩
       case round =>
        obtain⟨k,X5,hk,rfl,hA⟩:=hrel;have hcx:X5.c=cc:=hA.out.c.trans HCX4.out
        cases gk with
        | succ r =>
         have hlt:k<KC.M.weak.length:=by omega
         have hltz:(k:Int)<(KC.M.weak.length:Int):=by omega
         have hok5:=B2t KC HOK.out k;have hMq:=hA.out.col.mem.mem hok5;obtain⟨g,hg,hgB,hgl,hgf,hgc,-⟩:=Q3 hA.out.col.mem.fK (by rw[B2s];omega);have y8:=hMq.weak;simp only[Ze] at y8;rw[hg,B2s] at y8;have hcell:wr.cell? ⟨g,k,none⟩=some (.int .u64 (KC.M.weak.getD k 0)):=by
          have:=hMq.rK;rw[hg] at this;rw[←F8t KC k hlt];simpa using this.at_ (K2 (Y3 KC k).M.weak k (by rw[B2s];exact hlt))
         have hgne:g≠b:=fun e=>by
          have:=(hA.out.col.mem.fld ⟨8,78,1,S.K.1,(Y3 KC k).M.weak.length,S.K.2,C5 (Y3 KC k).M.weak⟩ (by simp[F3])).2.2;simp[I6.val,hg,Value.ownBlock] at this;exact this e
         have hfz:=hgf k;have hxr:=Y1 HWB.out hlt;have hset:=F8u KC k hlt;generalize hu:KC.M.weak.getD k 0=u at *
         have HA7:=Hz hA.out;have HG:=Hz hg;have HXR:=Hz hxr;have HCX:=Hz hcx;have HGN:=Hz hgne;have HSET:=Hz hset;have HLT:=Hz hlt;have HK2:=Hz hk;obtain rfl:sk=some ⟨g,0,none⟩:=HSKK.out.symm.trans hg;clear hA hMq hg hgB hgl hgf hgc hxr hcx hgne hset hu hok5 hk hlt
         cases hok:(O0 KC u).2 with
         | true =>
          have HOT:=Hz hok;rw[hok] at HSET;clear hok
          go_wp2_with (go_at_call 95;refine (B7d KC k cc HCX.out u HXR.out.1 HXR.out.2 HA7.out.col HOK.out HSK.out).mono ?_;rintro e w9 ⟨he,hq⟩;rw[HOT.out] at he;subst he;have y8':=hq.cell_ y8;have hc9:=hq.cell_ hcell;have hf9:w9.frozen? ⟨g,k,none⟩=false:=(by rw[hq.three.2.1 _ _ (B9 hcell)];exact hfz);have HQ:=Hz hq;clear hq)
          obtain⟨X6,hA8⟩:=At.of_step ((HA7.out.ext HQ.out).step (D1o (HA7.out.ext HQ.out).col HG.out k (by rw[B2s];exact HLT.out) (O0 KC u).1));have HA8:Hid (At wC B b S X4 X6 (Y3 KC (k+1)) (w9.setCell ⟨g,k,none⟩ (.int .u64 (O0 KC u).1))):=by
           have e:=HSET.out (O0 KC u).1 (by simp);unfold Hid;rw[←e];exact hA8
          clear hA8
          go_roundg r
          case measure=>omega
          case rel=>exact⟨k+1,X6,(by have:=HK2.out;omega),(by go_num),HA8⟩
         | false =>
          have HOT:=Hz hok;rw[hok] at HSET;clear hok
          go_wp2_with (go_at_call 95;refine (B7d KC k cc HCX.out u HXR.out.1 HXR.out.2 HA7.out.col HOK.out HSK.out).mono ?_;rintro e w9 ⟨he,hq⟩;rw[HOT.out] at he;subst he;have y8':=hq.cell_ y8;have hc9:=hq.cell_ hcell;have hf9:w9.frozen? ⟨g,k,none⟩=false:=(by rw[hq.three.2.1 _ _ (B9 hcell)];exact hfz);have HQ:=Hz hq;clear hq)
          refine wp_region_held_drew (S:=fun W=>W.cell? ⟨b,8,none⟩=some (.slice (some ⟨g,0,none⟩) KC.M.weak.length S.K.2)) (by kernel_rfl) ?_ (fun hH=>?_)
          ·exact y8'
          refine tJ 0 237 rfl ?_
          try simp only[A5]
          refine tJ 1 238 rfl ?_
          try simp only[A5]
          refine tJ 2 239 rfl ?_
          try simp only[A5]
          refine tJ 3 240 rfl ?_
          try simp only[A5]
          refine tJ 4 241 rfl ?_
          try simp only[A5]
          refine wpAnyH_ready (rs:=[5]) (by kernel_rfl) (by simp) ?_;refine AllReadyH.cons (o:=⟨some 242,_,_,_,_,_⟩) rfl (fun K hK=>?_) AllReadyH.nil;go_simp;refine (B3n _ _).mono ?_;rintro e w' ⟨rfl,rfl⟩;refine hK.out _ _ ?_ (fun hH=>?_)
          ·(try dsimp only);exact y8'
          clear hK K
          try simp only[A5]
          refine tJ 6 243 rfl ?_
          try simp only[A5]
          refine wpAnyH_ready (rs:=[7]) (by kernel_rfl) (by simp) ?_;refine AllReadyH.cons (o:=⟨none,_,_,_,_,_⟩) rfl (fun K hK=>?_) AllReadyH.nil;go_simp;obtain⟨X6,hA8⟩:=At.of_step ((HA7.out.ext HQ.out).step (D1o (HA7.out.ext HQ.out).col HG.out k (by rw[B2s];exact HLT.out) (P3 0)));have HA8:=Hz ((D5i hA8 (HSET.out (P3 0) (by unfold P3;simp))).ext ((A0.refl _).drew_));clear hA8;refine hK.out _ _ ?_ (fun hH=>?_)
          ·(try dsimp only);show (w9.setCell ⟨g,k,none⟩ _).cell? ⟨b,8,none⟩=_;rw[World.cell?_setCell_far _ _ _ _ (by have:=HGN.out;simp only;omega)];exact y8'
          clear hK K
          try simp only[A5]
          refine wpAnyH_done (by kernel_rfl) ?_ _;go_wp2
          go_roundg r
          case measure=>omega
          case rel=>exact⟨k+1,X6,(by have:=HK2.out;omega),(by go_num),HA8⟩
        | zero =>
         obtain rfl:k=KC.M.weak.length:=by omega
         have hltz:¬((KC.M.weak.length:Nat):Int)<(KC.M.weak.length:Int):=by omega
         have HA7:=Hz hA.out;have HCX:=Hz hcx;clear hA hcx hk;obtain⟨wD,rfl⟩:∃ x,x=wr:=⟨wr,rfl⟩;obtain⟨nK,hnK⟩:∃ nK,nK=KC.M.weak.length:=⟨_,rfl⟩;rw[←hnK] at HA7 hltz ⊢;have HNK:=Hz hnK;have HAD:Hid (At W3 B b S X0 X5 (Y3 KC nK) wD):=B5s HAC.out HA7.out;have hok6:=B2t KC HOK.out nK;have hM6:=HA7.out.col.mem.mem hok6;have y9:=hM6.ids;simp only[Ze] at y9;have y9i:wD.cell? ⟨b,9,none⟩=some (.slice S.I.1 KC.M.ids.length S.I.2):=y9;have hri:F7 wD S.I.1 (G0 KC.M.ids):=hM6.rI;have HM6:=Hz hM6;have hidz:KC.M.ids.length≤196608:=HIDL.out;have HIB:Hid (∀ x∈KC.M.ids,0≤x.1∧x.1≤18446744073709551615):=fun x hx=>(HOK.out.ids x hx).1
         obtain⟨i0,hi0,hz0,hz1,hz2⟩:=info_parts B6z;obtain⟨si,hsi⟩:∃ si,S.I.1=si:=⟨_,rfl⟩;rw[hsi] at y9i hri;have HRI:=Hz hri;have HSII:=Hz hsi;clear hok6 hM6 y9 hri hnK hsi;go_wp2;clear y9i
         go_loopg [250,24] (KC.M.ids.length) (fun r i s wr=>∃ (k:Nat) (acc:List (Int × Int)) (a:Option Addr) (c:Nat),k+r=KC.M.ids.length∧i=.int .i64 (k:Int)∧s=.slice a acc.length c∧Hid (acc=B1x KC (KC.M.ids.take k))∧Hid (wr.ownsRow wD.heap.size 140 2 (.slice a acc.length c) acc.length (G0 acc))∧Hid (A0 wD wr))
         case atStart=>exact⟨0,[],none,0,by omega,rfl,rfl,rfl,World.ownsRow_nil _ _ _ _,A0.refl _⟩
         case round =>
          obtain⟨k,acc,a,c,hk,rfl,rfl,hAc,hOw,hE⟩:=hrel
          cases gk with
          | succ r =>
           have hlt:k<KC.M.ids.length:=by omega
           have hltz:(k:Int)<(KC.M.ids.length:Int):=by omega
           obtain⟨p0,p1⟩:=A6u KC.M.ids k hlt;have hRw:=HRI.out.ext hE.out;obtain⟨ib,io,rfl,hc0⟩:=hRw _ _ p0;have hc1:=hRw.at_ p1;rw[←Nat.add_assoc] at hc1;have hx:=HIB.out _ (List.getElem_mem hlt);have hsn:=E3c KC KC.M.ids k hlt;have hal:acc.length≤k:=by
            rw[hAc.out];exact Zd (E3b _ _) (by rw[List.length_take];omega)
           rw[←hAc.out] at hsn;generalize KC.M.ids[k]=x at *
           have HA8:Hid (At wD B b S X5 X5 (Y3 KC nK) wr):=(B3e HA7.out).ext hE.out;have hsz:=hE.out.size;have HX:=Hz hx;have HSN:=Hz hsn;have HK2:=Hz hk;have HAL:=Hz hal;clear p0 p1 hRw hx hsn hk hal hlt
           cases hok:(O0 KC x.1).2 with
           | true =>
            have HOT:=Hz hok;rw[hok] at HSN;clear hok
            go_wp2_with (first
             | (go_at_call 95;refine (B7d KC nK cc HCX.out x.1 HX.out.1 HX.out.2 (HA8.out.col.ext ((A0.refl _).alloc_ _)) HOK.out HSK.out).mono ?_;rintro e w9 ⟨he,hq⟩;rw[HOT.out] at he;subst he;have hsz9:=hq.size;have q91:=hq.cell_ (show (wr.alloc (.cells #[.int .u64 x.1,.int .i64 x.2] 140)).cell? ⟨wr.heap.size,1,none⟩=some (.int .i64 x.2) by simp[go_sem]);have HQ:=Hz hq;clear hq)
             | (at_builtin;go_loud (refine A5e rfl _ _ 80 rfl wD.heap.size 140 i0 (.agg #[.int .u64 0,.int .i64 0]) 2 16 B1a hi0 hz0 hz1 hz2 rfl (by decide) _ acc.length (G0 acc) rfl (A2n hOw.out (Zc _) ((((A0.refl wr).alloc_ _).trans_ HQ.out).alloc_ _)) (some ⟨_,0,none⟩) 1 1 [.int .u64 (O0 KC x.1).1,.int .i64 x.2] rfl (fun h=>by cases h) (Zc _) rfl ?c1 ?c2 ?c3 ?c4 ?c5 ?_)))
            case c1=>exact B8c (heap_alloc_new _ _)
            case c2=>intro u hu;simp at hu;rcases hu with rfl|rfl<;>rfl
            case c3=>have:=HAL.out;have:=HK2.out;unfold maxLen;omega
            case c4=>have:=HAL.out;have:=HK2.out;omega
            case c5=>simp at hsz9 ⊢;omega
            intro a' c' w12 hown hgrow hat';have hE12:A0 wD w12:=Below.grown (((hE.out.alloc_ _).trans_ HQ.out).alloc_ _) hgrow (by simp at hsz9 ⊢;omega) (fun j hj=>(hOw.out.lt j hj).1);have HOW:=Hz hown;have HE12:=Hz hE12;clear hown hgrow hat' hE12;go_wp2
            go_roundg r
            case measure=>omega
            case rel =>
             refine⟨k+1,acc++[((O0 KC x.1).1,x.2)],a',c',(by have:=HK2.out;omega),(by go_num),(by simp),HSN.out.symm,?_,HE12⟩;show World.ownsRow _ _ _ _ _ _ _;rw[C6o,List.length_append];exact HOW.out
           | false =>
            have HOT:=Hz hok;rw[hok] at HSN;clear hok
            go_wp2_with (go_at_call 95;refine (B7d KC nK cc HCX.out x.1 HX.out.1 HX.out.2 (HA8.out.col.ext ((A0.refl _).alloc_ _)) HOK.out HSK.out).mono ?_;rintro e w9 ⟨he,hq⟩;rw[HOT.out] at he;subst he;have HQ:=Hz hq;clear hq)
            go_roundg r
            case measure=>omega
            case rel=>exact⟨k+1,acc,a,c,(by have:=HK2.out;omega),(by go_num),rfl,HSN.out.symm,A2n hOw.out (Zc _) (((A0.refl wr).alloc_ _).trans_ HQ.out),hE.out.trans_ (((A0.refl wr).alloc_ _).trans_ HQ.out)⟩
          | zero =>
           obtain rfl:k=KC.M.ids.length:=by omega
           have hltz:¬((KC.M.ids.length:Nat):Int)<(KC.M.ids.length:Int):=by omega
           have hAc':acc=A3s KC:=by have:=hAc.out;rw[List.take_length] at this;exact this
           subst hAc';have hA9:=HA7.out.ext hE.out;have y4:=(hA9.col.mem.mem (B2t KC HOK.out nK)).used;simp only[Ze] at y4;have y4u:wr.cell? ⟨b,4,none⟩=some (.int .i64 M.used):=by rw[y4,←HLK.out.used];rfl
           have y5:=(hA9.col.mem.mem (B2t KC HOK.out nK)).top;simp only[Ze] at y5;have y9:=(hA9.col.mem.mem (B2t KC HOK.out nK)).ids;simp only[Ze] at y9;have f3:=hA9.col.f3;rw[HCX.out] at f3;have f3k:wr.cell? ⟨cc,3,none⟩=some (.int .i64 KC.top):=f3;have z9:=OM.frozen hA9.col.mem 9;have z4:=OM.frozen hA9.col.mem 4;have z5:=OM.frozen hA9.col.mem 5;have hbw9:=OM.lt hA9.col.mem;have hccw9:=B9 f3k;simp only at hccw9;have hcb:cc≠b:=fun e=>hA9.col.cN (by rw[HCX.out,e];exact Or.inl rfl)
           have e1:IntKind.i64.wrap (1-M.used)=1-M.used:=Zb _ (by omega);have HA9:=Hz hA9;have HOWI:=Hz hOw.out;have HEE:=Hz hE.out;clear hA9 y4 f3 hAc hOw hE hk;go_wp2;go_region;go_wp2;go_ret;have hADr:=HAD.out.ext HEE.out;have hsD:=HA7.out.col.mem;have hrow:=HOWI.out;have hB2:B≤wD.heap.size:=by have h1:=hsD.hb;have h2:=OM.lt hsD;omega
           have hend:=D7n HA9.out.col.mem a c (A3s KC) (A2n hrow hB2 (A0.refl _)) (fun k hk hkA=>by
            have h1:=(hrow.lt k hk).1;have h2:=(hsD.own_size hkA).2;omega) (1-M.used) KC.top
           have e:({(Y3 KC nK).M with ids:=A3s KC,used:=1-M.used,top:=KC.top}:A7)=A5j M ten:=by
            unfold A5j;rw[←HKE.out,HNK.out,show (Y3 KC KC.M.weak.length).M=_ from congrArg D9.M (F8s KC)]
           rw[e] at hend;have hkA:A8 (G1 b S) w wr:=(A8.of_ext HEX0.out).then_ hADr.keep fun i hi hk=>by
            rcases hk with hk|hk|hk|hk
            ·exact hk
            ·have:=HCCW.out.1;rw[HX0c.out] at hk;omega
            ·have:=HCCW.out.2;rw[HX0m.out] at hk;omega
            ·rw[HX0t.out] at hk;simp[Value.ownBlock] at hk
           have hsz:=hkA.size;refine⟨rfl,{S with I:=(a,c)},OM.ext hend ((A0.refl _).drew_),(hkA.trans (D7o _ _ _)).drew_,fun k hk=>?_⟩;rcases hk with hk|hk|hk|hk|hk|hk
           ·exact Or.inl (Or.inl hk)
           ·exact Or.inl (Or.inr (Or.inl hk))
           ·exact Or.inl (Or.inr (Or.inr (Or.inl hk)))
           ·exact Or.inl (Or.inr (Or.inr (Or.inr (Or.inl hk))))
           ·right;have hk':a=some ⟨k,0,none⟩:=hk;have h1:=(hrow.lt k (by rw[hk'];rfl)).1;have h2:=HAD.out.keep.size;have h3:=HEX0.out.size;omega
           ·exact Or.inl (Or.inr (Or.inr (Or.inr (Or.inr (Or.inr hk)))))
      | cons a t =>
       obtain⟨r,rfl⟩:∃ r,gk=r+1:=by
        cases gk with
        | zero=>exact absurd (show C4.todo=[] from hF.out) (by rw[htd];simp)
        | succ r=>exact⟨r,rfl⟩
       have hF':=hF.out;unfold B1e at hF';rw[htd] at hF';obtain⟨⟨a0,a1,a2,a3,a4,a5⟩,b1,b2⟩:=hF';have hR':=hR.out;unfold A7i at hR';rw[htd] at hR';have htl:I9 wr B 3 X4.tv (.int .i64 a::K6 t):=by have h:=hA.out.col.td;rw[htd] at h;exact h
       obtain⟨g4,off,cap,A,hv,hc4,hrun4,htl2,hob⟩:=I9.rest (P:=Tryz.prog) (t:=22) htl B5g F5r;rw[hv] at f5;have hA5:=F8z hA.out (.slice A (K6 t).length cap) t htl2 (by rw[hob,hv];rfl);obtain⟨X5,hX5⟩:∃ X5:Pl,X5={X4 with tv:=.slice A (K6 t).length cap}:=⟨_,rfl⟩;rw[←hX5] at hA5;rw[hcx] at hA5;have hfz:=hA.out.col.frozen 5;rw[hcx] at hfz;obtain⟨n,hn⟩:∃ n:Nat,a=(n:Int):=⟨a.toNat,by omega⟩;subst hn;rw[Za] at a2 a5;simp only[Za] at b1 b2 hR';have hsz4:B5 (A6 C4.M.W n)≤4096:=((A1v (A6 C4.M.W n)).1 a5).2.2;have hxr:=O6 a3 n;have hsz0:=(Z9 (A6 C4.M.W n) hxr.1).2.2.2.2.2.2;obtain⟨N,hN⟩:∃ N:Nat,B5 (A6 C4.M.W n)=(N:Int):=⟨(B5 (A6 C4.M.W n)).toNat,by omega⟩;rw[hN,Za] at b1 b2 hR';rw[hN] at hsz4;have htp:(0:Int)<(((K6 t).length+1:Nat):Int):=by omega
       generalize (K6 t).length=tl at *
       have hcx5:X5.c=cc:=by rw[hX5];exact hcx
       have HA5:=Hz hA5;have HCX5:=Hz hcx5;have HB1:=Hz b1;have HB2:=Hz b2;have HR2:=Hz hR';have HXR:=Hz hxr;have HHD:=Hz a5;have HCO:=Hz a3;have HNN:=Hz hN;have HW2:=Hz a2;have HNB:Hid (n≤1000000∧N≤1000000):=by unfold Hid;omega
       clear hA hF hR hR' htl hv htl2 hob hX5 a0 a1 a2 a3 a4 a5 b1 b2 hxr hsz0 hsz4 hN hA5 hcx hcx5 htd
       go_upto_region 32 with fail
       refine P4 (fun w8 hw8=>?_);have hA8:=HA5.out;rw[←hw8] at hA8;have hMq:=hA8.col.mem.mem HCO.out;obtain⟨g,hg,hgB,hgl,hgf,hgc,-⟩:=Q3 hA8.col.mem.fW (show 0<C4.M.W.length by have:=HW2.out;omega);have y3:=hMq.W;simp only[Ze] at y3;rw[hg] at y3;have hcw:w8.cell? ⟨g,n,none⟩=some (.int .u64 (A6 C4.M.W n)):=by
        have:=hMq.rW;rw[hg] at this;simpa [A6] using this.at_ (K2 C4.M.W n HW2.out)
       have hnz:(n:Int)<(C4.M.W.length:Int):=by have:=HW2.out;omega
       have HA8:=Hz hA8;clear hw8 hA8 hMq hg hgB hgl hgf hgc hc4 hrun4 f5 hfz htp
       go_wp2_with (first
        | (go_at_call 56;refine (A3d _ HXR.out.1 HXR.out.2 HHD.out _).mono ?_;rintro e w9 ⟨rfl,hq⟩;have HX9:=Hz hq;clear hq)
        | (go_at_call 94;refine (E0b cc HCX5.out n N _ _ rfl HNN.out _ (HA8.out.col.ext (HX9.out.alloc_ _)) HNB.out.1 HNB.out.2 HB1.out).mono ?_;rintro e w11 ⟨rfl,hq⟩;obtain⟨X7,hA7'⟩:=At.of_step ((HA8.out.ext (HX9.out.alloc_ _)).step hq);have HA77:=Hz hA7';clear hq hA7'))
       go_roundg r
       case measure=>omega
       case rel=>exact⟨_,X7,HA77,HB2,HR2⟩
end Go.Proofs.YtelhoppfidibiaaGreatDoor
