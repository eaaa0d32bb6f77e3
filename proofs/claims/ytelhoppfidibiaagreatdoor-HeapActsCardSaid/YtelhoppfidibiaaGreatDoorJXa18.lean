/- The walk of the document's CheckOf: the objects, the cards, the numbers. -/
import Derived.Test.YtelhoppfidibiaaGreatDoorJXa17
import Derived.Test.YtelhoppfidibiaaGreatDoorJXa14
set_option linter.unusedSimpArgs false
set_option linter.unusedVariables false
set_option maxHeartbeats 16000000
set_option maxRecDepth 100000
namespace Go.Proofs.YtelhoppfidibiaaGreatDoor
open Go.RowKit
open Bool renaming and_assoc→Za,and_true→Zb
open IntWalk renaming i64_in→Zc
open List renaming all_append→Zd,contains_iff_mem→Ze,foldl_cons→Zf,getD_eq_getElem?_getD→Zg,getElem_mem→Zh,getElem_take→Zi,mem_iff_getElem→Zj,mem_map→Zk,mem_of_getElem?→Zl,mem_singleton→Zm
open Nat renaming add_assoc→Zn,zero_le→Zo
theorem E4d (b o:Nat) (M:A7) (S:C8) (w:World) (hM:G8 w b o M S) (hs:P1 M=true) (hb:((kN M).2&&(kO M).2)=true) (hr:J6 (C6 M) M.roots=true) (hk:J6 (C6 M) M.weak=true) :
  Calls Tryz.prog 35 #[.pointer (some ⟨b,o,none⟩)] w fun e w'=>e=.returned (.int .i64 (chk M))∧A0 w w':=by
 have hchk:=D7a hs hb hr hk;have HM:=Hz hM;have hltb:=hM.lt;clear hM;have HR:=Hz hr;have HK:=Hz hk;clear hr hk;have HS:=Hz hs;have hsh:=A9r hs;have HSH:=Hz hsh;obtain⟨hl1,-,-,-⟩:=C7n hb;have HB:=Hz hb;obtain⟨l,hl⟩:∃ l,l=D8 M:=⟨_,rfl⟩;rw[←hl] at hl1;have HLI:=Hz hl1;have HL:=Hz hl;have HATS:Hid (G9 l=C6 M):=by unfold Hid;rw[hl];rfl
 have hobm:∀ x∈l,ObM M x:=fun x hx=>B4m (by rw[←hl];exact hx)
 have HOBM:=Hz hobm;have HLT:Hid (∀ x∈l,(x.a:Int)<1099511627776):=fun x hx=>(B8h M hsh _ (by rw[←HATS.out];exact List.mem_map_of_mem hx)).2
 have HLL:Hid (l.length≤9223372036854775807):=by
  have h1:=B7y M.W M.base (M.base+M.top.toNat);have h2:=B7y M.W (2*M.half).toNat ((2*M.half).toNat+M.oldTop.toNat);have h3:=congrArg List.length hl1;rw[List.length_append] at h3;have e1:(kN M).1=(T7 M.W M.base (M.base+M.top.toNat)).1:=rfl;have e2:(kO M).1=(T7 M.W (2*M.half).toNat ((2*M.half).toNat+M.oldTop.toNat)).1:=rfl;rw[e1,e2] at h3;have h4:=hsh.t2;have h5:=hsh.p2;have h6:=hsh.h2;have h7:=hsh.o2;have h8:=hsh.t1;have h9:=hsh.p1;unfold Hid;omega
 clear hs hsh hb hl hl1 hobm;rw[←HL.out] at hchk;have HCHK:=Hz hchk;have hw0:0<M.W.length:=by have h1:=HSH.out.w;have h2:=HSH.out.h1;have h3:=HSH.out.o1;omega
 obtain⟨wb,wo,hWa,-⟩:=HM.out.rW 0 _ (K2 M.W 0 hw0);have c_W:=HM.out.W;rw[hWa] at c_W;have HWA:=Hz hWa;have hcap:=HM.out.capW;clear hchk hWa
 go_enter Tryz.func35,Tryz.ntmps35
 have n7:=HM.out.roots;have n8:=HM.out.weak
 go_wp2_with (first
  | (go_at_call 77;refine (E4g b o M S w HM.out).mono ?_;rintro e w1 ⟨he,hq⟩;rw[HS.out] at he;subst he;have HX1:=Hz hq;clear hq)
  | ((go_at_call 78;refine (E4c b o M S HSH.out _ (HM.out.ext HX1.out)).mono ?_;rintro e w2 ⟨la,lc,he,hown,hq⟩;rw[HB.out,HLI.out] at he;rw[HLI.out] at hown;subst he;have HX2:Hid (A0 w w2):=A0.trans_ HX1.out hq;have HLR:=Hz (D0i hown);have HLN:=Hz (D0h hown);have hlc:=D0g hown;clear hq hown);have k7:=HX2.out.cell_ n7;have k8:=HX2.out.cell_ n8;have HY2:Hid (A0 w2 w2):=A0.refl w2))
 refine (B6l S.R.1 S.R.2 M.roots HM.out.ok.lenR HM.out.ok.roots la lc l _ HLL.out (HM.out.ext HX2.out).rR HLR.out HLT.out).mono ?_;rintro e w' ⟨he,hw9⟩;have hw9:=hw9.symm;subst hw9;rw[HATS.out,HR.out] at he;subst he
 go_wp2_with fail
 refine (B6l S.K.1 S.K.2 M.weak HM.out.ok.lenK HM.out.ok.weak la lc l _ HLL.out (HM.out.ext HX2.out).rK HLR.out HLT.out).mono ?_;rintro e w' ⟨he,hw9⟩;have hw9:=hw9.symm;subst hw9;rw[HATS.out,HK.out] at he;subst he;clear n7 n8 k7 k8;have hllz:=HLL.out;go_wp2
 go_loopw [5,6] (fun c i wr=>∃ (k:Nat) (q:Bool),k≤l.length∧i=.int .i64 (k:Int)∧c=.bool q∧Hid (q=(l.take k).all (A1r M))∧Hid ((l.take k).all (okK M)=true)∧Hid (A0 w wr)∧Hid (A0 w2 wr)) (fun _ i _=>l.length-(intOf i).toNat)
 case atStart=>exact⟨0,true,Zo _,rfl,rfl,rfl,rfl,HX2.out,HY2.out⟩
 case round =>
  obtain⟨k,q,hk,rfl,rfl,hQ,hA,hE,hE2⟩:=hrel;have d0:=(HM.out.ext hE.out).half;by_cases hlt:k<l.length
  ·obtain⟨p0,p1,p2,p3⟩:=C9y l k hlt;obtain⟨ob,oo,rfl,c0⟩:=HLR.out _ _ p0;have c1:=HLR.out.at_ p1;have c2:=HLR.out.at_ p2;have c3:=HLR.out.at_ p3;rw[←Zn] at c1 c2 c3
   replace c0:=hE2.out.cell_ c0
   replace c1:=hE2.out.cell_ c1
   replace c2:=hE2.out.cell_ c2
   replace c3:=hE2.out.cell_ c3
   have HD:Hid (l.take (k+1)=l.take k++[l[k]]):=Hz (List.take_succ_eq_append_getElem hlt);have HXM:=Hz (HOBM.out l[k] (Zh hlt));have HMEM:=Hz (Zh hlt);generalize l[k]=x at *
   obtain⟨hx0,hx1,hx2,hx3,hx4⟩:=E8i HM.out.ok HSH.out HXM.out;have hltz:(k:Int)<(l.length:Int):=by omega
   have hzb:ob<wr.heap.size:=B9 c0;have hzo:b<wr.heap.size:=by have:=hE.out.size;omega
   have s2:=HSH.out.h2;have s1:=HSH.out.h1;have e2h:IntKind.i64.wrap (2*M.half)=2*M.half:=Zc _ (by omega);clear p0 p1 p2 p3;by_cases ho:2*M.half≤(x.a:Int)
   ·have ho':decide (2*M.half≤(x.a:Int))=true:=decide_eq_true ho;have HO:Hid (L4 M (x.a:Int)=true):=ho'
    cases ha:(F4 x.w != 0) with
    | true =>
     have HAG:=Hz ha;go_wp2
     go_quiet (fail)
     go_wp2;go_ret;refine⟨?_,by repeat (first|exact hE.out|(refine A0.drew_ ?_)|(refine A0.drewN_ ?_ _)|(refine A0.alloc_ ?_ _))⟩;have hf:l.all (okK M)=false:=B9l HMEM.out (by unfold okK A5w;rw[HO.out,HAG.out];rfl);rw[HCHK.out,hf];rfl
    | false =>
     have HAG:Hid (A5w M x=true):=D4v ha
     cases hraw:decide (B3 x.w<8) with
     | true =>
      have HRW:Hid (D2 (B3 x.w)=true):=hraw;go_wp2
      go_quiet (fail)
      go_wp2
      go_roundw
      case rel=>exact⟨k+1,q,by omega,by go_num,rfl,Hz (by rw[HD.out,Zd,←hQ.out];simp[C4g HRW.out]),Hz (by rw[HD.out,Zd,hA.out];simp[okK,HAG.out,D0a HRW.out]),by repeat (first|exact hE.out|(refine A0.drew_ ?_)|(refine A0.drewN_ ?_ _)|(refine A0.alloc_ ?_ _)),by repeat (first|exact hE2.out|(refine A0.drew_ ?_)|(refine A0.drewN_ ?_ _)|(refine A0.alloc_ ?_ _))⟩
      case measure=>simp[intOf];omega
     | false =>
      have HRW:Hid (D2 (B3 x.w)=false):=hraw;have d3:=hE.out.cell_ c_W;go_wp2
      go_quiet (fail)
      go_wp2;obtain⟨A,C,hsl,hAC,hAn,hRA⟩:=B4x (P:=Tryz.prog) A0c A3w wb wo M.W.length S.W.2 (x.a+1) (x.a+1+x.n) ((x.a:Int)+1) ((x.a:Int)+1+B5 x.w) (by omega) (by omega) (by omega) (by omega);have HRA:Hid (∀ W,A0 w W→F7 W A (C5 (flds M x))):=fun W hW=>by
       have:=hRA W _ (HWA.out ▸ (HM.out.ext hW).rW);rw[B3v M x (by omega)] at this;exact this
      rw[show x.a+1+x.n-(x.a+1)=x.n by omega] at hsl hAC;clear hRA;have hc1:(x.a:Int)+1+B5 x.w≤(S.W.2:Int):=by omega
      have hc2:(0:Int)≤(x.a:Int)+1:=by omega
      have hc3:(x.a:Int)+1≤(x.a:Int)+1+B5 x.w:=by omega
      have hcall:=B6l A C (flds M x) (by rw[A6b];omega) (fun z hz=>C0d HM.out.ok x z hz) (some ⟨ob,oo,none⟩) lc l;rw[A6b] at hcall;have HCALL:=Hz hcall;clear hcall;have e1:IntKind.i64.wrap ((x.a:Int)+1)=(x.a:Int)+1:=Zc _ (by omega);have e2:IntKind.i64.wrap ((x.a:Int)+1+B5 x.w)=(x.a:Int)+1+B5 x.w:=Zc _ (by omega)
      go_quiet (fail)
      clear e1 e2 hsl
      go_wp2_with fail
      refine (HCALL.out _ HLL.out (HRA.out _ (by repeat (first|exact hE.out|(refine A0.drew_ ?_)|(refine A0.drewN_ ?_ _)|(refine A0.alloc_ ?_ _)))) (HLR.out.ext (by repeat (first|exact hE2.out|(refine A0.drew_ ?_)|(refine A0.drewN_ ?_ _)|(refine A0.alloc_ ?_ _)))) HLT.out).mono ?_;rintro e w' ⟨he,hw9⟩;have hw9:=hw9.symm;subst hw9;rw[HATS.out] at he
      cases hf:J6 (C6 M) (flds M x) with
      | false =>
       have HFF:=Hz hf;rw[hf] at he;subst he;clear hf;go_wp2;go_ret;refine⟨?_,by repeat (first|exact hE.out|(refine A0.drew_ ?_)|(refine A0.drewN_ ?_ _)|(refine A0.alloc_ ?_ _))⟩;have hf:l.all (okK M)=false:=B9l HMEM.out (by unfold okK R2;rw[HRW.out,HFF.out,HAG.out];rfl);rw[HCHK.out,hf];rfl
      | true =>
       have HFT:=Hz hf;rw[hf] at he;subst he;clear hf;go_wp2;refine P4 (fun W5 hW5=>?_);have hE5:A0 wr W5:=by rw[hW5];repeat (first|exact A0.refl _|(refine A0.drew_ ?_)|(refine A0.drewN_ ?_ _)|(refine A0.alloc_ ?_ _))
       have HE5:=Hz hE5;have y0:W5.cell? ⟨wr.heap.size,0,none⟩=some (.int .i64 (x.a:Int)):=by rw[hW5];simp[go_sem]
       clear hW5 hE5;have HOKX:Hid (okK M x=true):=by unfold Hid okK R2;rw[HRW.out,HFT.out,HAG.out];rfl
       have dC:=HE5.out.cell_ (hE.out.cell_ HM.out.cards);have dD:=HE5.out.cell_ (hE.out.cell_ HM.out.card);have dH:=HE5.out.cell_ d0;have hcc1:=HSH.out.c1;have hcc2:=HSH.out.c2;have hoo2:=HSH.out.o2;have hcl:M.cards.length≤9223372036854775807:=HM.out.ok.lenC;have hccap:=HM.out.capC;clear c0 c1 c2 c3 d0 d3
       go_loopw [5,10] (fun c j wq=>∃ (jn:Nat) (q2:Bool),jn≤x.n∧j=.int .i64 (jn:Int)∧c=.bool q2∧Hid (q2=(q&&A2v M x jn))∧Hid (A0 W5 wq)) (fun _ j _=>x.n-(intOf j).toNat)
       case atStart=>exact⟨0,q,Zo _,rfl,rfl,Hz (by simp[A2v]),A0.refl W5⟩
       case round =>
        obtain⟨jn,q2,hjn,rfl,rfl,hQ2,hX⟩:=hrel;by_cases hjl:jn<x.n
        ·have hwq:A0 w wr:=A0.trans_ (A0.trans_ hE.out HE5.out) hX.out;obtain⟨ab,ao,hAe,hcell⟩:=HRA.out wr hwq jn _ (K2 (flds M x) jn (by rw[A6b];exact hjl));rw[B6n M x jn hjl] at hcell;have hin:=O6 HM.out.ok (x.a+1+jn);have HYP:=Hz (F9c M HSH.out _ hin.1 (C5o HFT.out jn hjl));have HCR:Hid (crd M x jn=!(J5 M (A6 M.W (x.a+1+jn))&&!A0e M ((x.a:Int)+1+jn))):=by unfold Hid crd;rw[HO.out,Bool.true_and]
         obtain⟨J,hJ1,hJ2,hJ3⟩:=D6m HSH.out ((x.a:Int)+1+jn) (by omega) (by have:=hx3 ho;omega);obtain⟨cb,co,hCe,hccell⟩:=HM.out.rC J _ (B3h M.cards J hJ2);have HJ3:=Hz hJ3;have HP:=fun W=>B7z (A6 M.W (x.a+1+jn)) hin.1 hin.2 W
         generalize B6 (A6 M.W (x.a+1+jn))=P at *
         generalize A6 M.W (x.a+1+jn)=v at *
         rw[hJ3] at HCR;generalize hcq:M.cards.getD J false=cq at *
         have HPT:=Hz HP;subst hAe;have yy0:=hX.out.cell_ y0;have yC:=hX.out.cell_ dC;rw[hCe] at yC;have yD:=hX.out.cell_ dD;have yH:=hX.out.cell_ dH;have hcc:=hwq.cell_ hccell;have hjz:(jn:Int)<(x.n:Int):=by omega
         have hJz:(J:Int)<(M.cards.length:Int):=by omega
         have hb1:(x.a:Int)+1+jn-2*M.half≤196608:=by omega
         have hb0:0≤(x.a:Int)+1+jn-2*M.half:=by omega
         have hne1:(M.card==0)=false:=by simp;omega
         have hne2:¬M.card=0:=by omega
         have HJ1:=Hz hJ1;clear hJ1 hJ2 hJ3 hCe hccell HP hcq hin;by_cases hP0:0≤P
         ·by_cases hP1:P<2*M.half
          ·have HYT:Hid (J5 M v=true):=by rw[Hid,HYP.out,decide_eq_true hP0,decide_eq_true hP1];rfl
           cases cq with
           | true =>
            have HCRD:Hid (crd M x jn=true):=by rw[Hid,HCR.out,HYT.out];rfl
            go_wp2_with (go_at_call 80;refine (HPT.out _).mono ?_;rintro e w' ⟨rfl,rfl⟩)
            have e3:IntKind.i64.wrap ((x.a:Int)+1)=(x.a:Int)+1:=Zc _ (by omega);have e4:IntKind.i64.wrap ((x.a:Int)+1+(jn:Int))=(x.a:Int)+1+(jn:Int):=Zc _ (by omega);have e6:IntKind.i64.wrap ((x.a:Int)+1+(jn:Int)-2*M.half)=(x.a:Int)+1+(jn:Int)-2*M.half:=Zc _ (by omega);have e7:IntKind.i64.wrap (J:Int)=(J:Int):=Zc _ (by omega);have e8:=HJ1.out
            go_quiet (fail)
            clear e3 e4 e6 e7 e8;go_wp2
            go_roundw
            case rel=>exact⟨jn+1,q2,by omega,by go_num,rfl,Hz (by rw[A8z,←Za,←hQ2.out,HCRD.out,Zb]),by repeat (first|exact hX.out|(refine A0.drew_ ?_)|(refine A0.drewN_ ?_ _))⟩
            case measure=>simp[intOf];omega
           | false =>
            have HCRD:Hid (crd M x jn=false):=by rw[Hid,HCR.out,HYT.out];rfl
            go_wp2_with (go_at_call 80;refine (HPT.out _).mono ?_;rintro e w' ⟨rfl,rfl⟩)
            have e3:IntKind.i64.wrap ((x.a:Int)+1)=(x.a:Int)+1:=Zc _ (by omega);have e4:IntKind.i64.wrap ((x.a:Int)+1+(jn:Int))=(x.a:Int)+1+(jn:Int):=Zc _ (by omega);have e6:IntKind.i64.wrap ((x.a:Int)+1+(jn:Int)-2*M.half)=(x.a:Int)+1+(jn:Int)-2*M.half:=Zc _ (by omega);have e7:IntKind.i64.wrap (J:Int)=(J:Int):=Zc _ (by omega);have e8:=HJ1.out
            go_quiet (fail)
            clear e3 e4 e6 e7 e8;go_wp2
            go_roundw
            case rel=>exact⟨jn+1,false,by omega,by go_num,rfl,Hz (by rw[A8z,HCRD.out];simp),by repeat (first|exact hX.out|(refine A0.drew_ ?_)|(refine A0.drewN_ ?_ _))⟩
            case measure=>simp[intOf];omega
          ·have HCRD:Hid (crd M x jn=true):=by rw[Hid,HCR.out,HYP.out,decide_eq_false hP1,Bool.and_false];rfl
           have b1:decide (0≤P)=true:=decide_eq_true hP0;have b2:decide (P<2*M.half)=false:=decide_eq_false hP1
           go_wp2_with (go_at_call 80;refine (HPT.out _).mono ?_;rintro e w' ⟨rfl,rfl⟩)
           go_quiet (fail)
           skip;go_wp2
           go_roundw
           case rel=>exact⟨jn+1,q2,by omega,by go_num,rfl,Hz (by rw[A8z,←Za,←hQ2.out,HCRD.out,Zb]),by repeat (first|exact hX.out|(refine A0.drew_ ?_)|(refine A0.drewN_ ?_ _))⟩
           case measure=>simp[intOf];omega
         ·have HCRD:Hid (crd M x jn=true):=by rw[Hid,HCR.out,HYP.out,decide_eq_false hP0];rfl
          have b1:decide (0≤P)=false:=decide_eq_false hP0
          go_wp2_with (go_at_call 80;refine (HPT.out _).mono ?_;rintro e w' ⟨rfl,rfl⟩)
          go_quiet (fail)
          skip;go_wp2
          go_roundw
          case rel=>exact⟨jn+1,q2,by omega,by go_num,rfl,Hz (by rw[A8z,←Za,←hQ2.out,HCRD.out,Zb]),by repeat (first|exact hX.out|(refine A0.drew_ ?_)|(refine A0.drewN_ ?_ _))⟩
          case measure=>simp[intOf];omega
        ·have hjz:¬(jn:Int)<(x.n:Int):=by omega
         obtain rfl:jn=x.n:=by omega
         have HCD:Hid (A1r M x=A2v M x x.n):=by unfold Hid;rw[C4f HRW.out]
         go_wp2
         go_roundw
         case rel=>exact⟨k+1,q2,by omega,by go_num,rfl,Hz (by rw[HD.out,Zd,←hQ.out,hQ2.out];simp[HCD.out]),Hz (by rw[HD.out,Zd,hA.out];simp[HOKX.out]),A0.trans_ (A0.trans_ hE.out HE5.out) hX.out,A0.trans_ (A0.trans_ hE2.out HE5.out) hX.out⟩
         case measure=>simp[intOf];omega
   ·have ho':decide (2*M.half≤(x.a:Int))=false:=decide_eq_false ho;have HO:Hid (L4 M (x.a:Int)=false):=ho';have HAG:Hid (A5w M x=true):=D4w HO.out
    cases hraw:decide (B3 x.w<8) with
    | true =>
     have HRW:Hid (D2 (B3 x.w)=true):=hraw;go_wp2
     go_quiet (fail)
     go_wp2
     go_roundw
     case rel=>exact⟨k+1,q,by omega,by go_num,rfl,Hz (by rw[HD.out,Zd,←hQ.out];simp[C4g HRW.out]),Hz (by rw[HD.out,Zd,hA.out];simp[okK,HAG.out,D0a HRW.out]),by repeat (first|exact hE.out|(refine A0.drew_ ?_)|(refine A0.drewN_ ?_ _)|(refine A0.alloc_ ?_ _)),by repeat (first|exact hE2.out|(refine A0.drew_ ?_)|(refine A0.drewN_ ?_ _)|(refine A0.alloc_ ?_ _))⟩
     case measure=>simp[intOf];omega
    | false =>
     have HRW:Hid (D2 (B3 x.w)=false):=hraw;have d3:=hE.out.cell_ c_W;go_wp2
     go_quiet (fail)
     go_wp2;obtain⟨A,C,hsl,hAC,hAn,hRA⟩:=B4x (P:=Tryz.prog) A0c A3w wb wo M.W.length S.W.2 (x.a+1) (x.a+1+x.n) ((x.a:Int)+1) ((x.a:Int)+1+B5 x.w) (by omega) (by omega) (by omega) (by omega);have HRA:Hid (∀ W,A0 w W→F7 W A (C5 (flds M x))):=fun W hW=>by
      have:=hRA W _ (HWA.out ▸ (HM.out.ext hW).rW);rw[B3v M x (by omega)] at this;exact this
     rw[show x.a+1+x.n-(x.a+1)=x.n by omega] at hsl hAC;clear hRA;have hc1:(x.a:Int)+1+B5 x.w≤(S.W.2:Int):=by omega
     have hc2:(0:Int)≤(x.a:Int)+1:=by omega
     have hc3:(x.a:Int)+1≤(x.a:Int)+1+B5 x.w:=by omega
     have hcall:=B6l A C (flds M x) (by rw[A6b];omega) (fun z hz=>C0d HM.out.ok x z hz) (some ⟨ob,oo,none⟩) lc l;rw[A6b] at hcall;have HCALL:=Hz hcall;clear hcall;have e1:IntKind.i64.wrap ((x.a:Int)+1)=(x.a:Int)+1:=Zc _ (by omega);have e2:IntKind.i64.wrap ((x.a:Int)+1+B5 x.w)=(x.a:Int)+1+B5 x.w:=Zc _ (by omega)
     go_quiet (fail)
     clear e1 e2 hsl
     go_wp2_with fail
     refine (HCALL.out _ HLL.out (HRA.out _ (by repeat (first|exact hE.out|(refine A0.drew_ ?_)|(refine A0.drewN_ ?_ _)|(refine A0.alloc_ ?_ _)))) (HLR.out.ext (by repeat (first|exact hE2.out|(refine A0.drew_ ?_)|(refine A0.drewN_ ?_ _)|(refine A0.alloc_ ?_ _)))) HLT.out).mono ?_;rintro e w' ⟨he,hw9⟩;have hw9:=hw9.symm;subst hw9;rw[HATS.out] at he
     cases hf:J6 (C6 M) (flds M x) with
     | false =>
      have HFF:=Hz hf;rw[hf] at he;subst he;clear hf;go_wp2;go_ret;refine⟨?_,by repeat (first|exact hE.out|(refine A0.drew_ ?_)|(refine A0.drewN_ ?_ _)|(refine A0.alloc_ ?_ _))⟩;have hf:l.all (okK M)=false:=B9l HMEM.out (by unfold okK R2;rw[HRW.out,HFF.out,HAG.out];rfl);rw[HCHK.out,hf];rfl
     | true =>
      have HFT:=Hz hf;rw[hf] at he;subst he;clear hf;go_wp2;refine P4 (fun W5 hW5=>?_);have hE5:A0 wr W5:=by rw[hW5];repeat (first|exact A0.refl _|(refine A0.drew_ ?_)|(refine A0.drewN_ ?_ _)|(refine A0.alloc_ ?_ _))
      have HE5:=Hz hE5;have y0:W5.cell? ⟨wr.heap.size,0,none⟩=some (.int .i64 (x.a:Int)):=by rw[hW5];simp[go_sem]
      clear hW5 hE5;have HOKX:Hid (okK M x=true):=by unfold Hid okK R2;rw[HRW.out,HFT.out,HAG.out];rfl
      have HCD:Hid (A1r M x=true):=by unfold Hid;rw[C4f HRW.out];exact D6n HO.out _
      go_loopw [5,10] (fun c j wq=>c=.bool q∧j=.int .i64 0∧Hid (A0 W5 wq)) (fun _ _ _=>0)
      case atStart=>exact⟨rfl,rfl,A0.refl W5⟩
      case round =>
       obtain⟨rfl,rfl,hX⟩:=hrel;by_cases hn0:(0:Int)<(x.n:Int)
       ·go_wp2
        go_roundw
        case rel=>exact⟨k+1,q,by omega,by go_num,rfl,Hz (by rw[HD.out,Zd,←hQ.out];simp[HCD.out]),Hz (by rw[HD.out,Zd,hA.out];simp[HOKX.out]),A0.trans_ (A0.trans_ hE.out HE5.out) hX.out,A0.trans_ (A0.trans_ hE2.out HE5.out) hX.out⟩
        case measure=>simp[intOf];omega
       ·go_wp2
        go_roundw
        case rel=>exact⟨k+1,q,by omega,by go_num,rfl,Hz (by rw[HD.out,Zd,←hQ.out];simp[HCD.out]),Hz (by rw[HD.out,Zd,hA.out];simp[HOKX.out]),A0.trans_ (A0.trans_ hE.out HE5.out) hX.out,A0.trans_ (A0.trans_ hE2.out HE5.out) hX.out⟩
        case measure=>simp[intOf];omega
  ·obtain rfl:k=l.length:=by omega
   have hltz:¬(l.length:Int)<(l.length:Int):=by omega
   have HALL:Hid (l.all (okK M)=true):=by have:=hA.out;rw[List.take_length] at this;exact this
   have HQC:Hid (q=A0p M):=by rw[Hid,hQ.out,List.take_length];unfold A0p;rw[←HL.out]
   have HI:=Hz HM.out.rI;have cI:=HM.out.ids;have hicap:=HM.out.capI;have hil:M.ids.length≤9223372036854775807:=HM.out.ok.lenI;clear hlt d0 hQ hA;go_wp2
   go_loopw [12] (fun i wr=>∃ (k:Nat),k≤M.ids.length∧i=.int .i64 (k:Int)∧Hid (∀ j (hj:j<M.ids.length),j<k→idK (C6 M) (M.ids.take j) M.ids[j]=true)∧Hid (A0 w wr)∧Hid (A0 w2 wr)) (fun i _=>M.ids.length-(intOf i).toNat)
   case atStart=>exact⟨0,Zo _,rfl,Hz (fun j _ hj=>absurd hj (Nat.not_lt_zero _)),hE,hE2⟩
   case round =>
    obtain⟨k,hk,rfl,hI,hE,hE2⟩:=hrel;have yI:=hE.out.cell_ cI;by_cases hlt:k<M.ids.length
    ·obtain⟨p1,p2⟩:=A6u M.ids k hlt;obtain⟨ib,io,hIa,hc1⟩:=HI.out _ _ p1;have hc2:=(hIa ▸ HI.out).at_ p2;rw[←Zn] at hc2
     replace hc1:=hE.out.cell_ hc1
     replace hc2:=hE.out.cell_ hc2
     rw[hIa] at yI;have HIA:=Hz hIa;have HKL:=Hz hlt;obtain⟨⟨hb0,hb1⟩,-⟩:=HM.out.ok.ids M.ids[k] (Zh hlt);generalize hx:M.ids[k]=x at hc1 hc2 hb0 hb1;obtain⟨x1,x2⟩:=x;have HXX:=Hz hx.symm;simp only at hc1 hc2 hb0 hb1;have HP:=fun W=>B7z x1 hb0 hb1 W
     have HPE:Hid (∃ P,P=B6 x1):=⟨_,rfl⟩;obtain⟨P,hP⟩:=HPE.out;rw[←hP] at HP;have HPT:=Hz HP;have HPQ:=Hz hP;have HOA:=Hz (fun W hR=>C9o la lc l P W HLL.out hR);have HON:Hid (decide (0≤L9 l P)=F8 (C6 M) P):=by rw[Hid,C1x];rw[←HATS.out];rfl
     have hltz:(k:Int)<(M.ids.length:Int):=by omega
     have hzb:ib<wr.heap.size:=B9 hc1;have hzo:b<wr.heap.size:=by have:=hE.out.size;omega
     clear p1 p2 hIa hx HP hP HPE;by_cases q1:P<0
     ·go_wp2_with (go_at_call 80;refine (HPT.out _).mono ?_;rintro e w' ⟨rfl,hw9⟩;have hw9:=hw9.symm;subst hw9)
      go_ret;refine⟨?_,by repeat (first|exact hE.out|(refine A0.drew_ ?_)|(refine A0.drewN_ ?_ _)|(refine A0.alloc_ ?_ _))⟩;rw[HCHK.out,HALL.out,B4e HSH.out HM.out.ok k HKL.out (by have key:=E2r (st:=C6 M) (pre:=M.ids.take k) (x:=(x1,x2)) (by show B6 x1<0;rw[←HPQ.out];exact q1);rw[HXX.out] at key;exact key)];rfl
     ·by_cases q2:L9 l P<0
      ·go_wp2_with (first
        | (go_at_call 80;refine (HPT.out _).mono ?_;rintro e w' ⟨rfl,hw9⟩;have hw9:=hw9.symm;subst hw9)
        | (go_at_call 81;refine (HOA.out _ (HLR.out.ext (by repeat (first|exact hE2.out|(refine A0.drew_ ?_)|(refine A0.drewN_ ?_ _)|(refine A0.alloc_ ?_ _))))).mono ?_;rintro e w' ⟨rfl,hw9⟩;have hw9:=hw9.symm;subst hw9))
       go_ret;refine⟨?_,by repeat (first|exact hE.out|(refine A0.drew_ ?_)|(refine A0.drewN_ ?_ _)|(refine A0.alloc_ ?_ _))⟩;rw[HCHK.out,HALL.out,B4e HSH.out HM.out.ok k HKL.out (by have key:=E2s (st:=C6 M) (pre:=M.ids.take k) (x:=(x1,x2)) (by show F8 (C6 M) (B6 x1)=false;rw[←HPQ.out,←HON.out];exact decide_eq_false (by omega));rw[HXX.out] at key;exact key)];rfl
      ·by_cases q3:x2<1
       ·go_wp2_with (first
         | (go_at_call 80;refine (HPT.out _).mono ?_;rintro e w' ⟨rfl,hw9⟩;have hw9:=hw9.symm;subst hw9)
         | (go_at_call 81;refine (HOA.out _ (HLR.out.ext (by repeat (first|exact hE2.out|(refine A0.drew_ ?_)|(refine A0.drewN_ ?_ _)|(refine A0.alloc_ ?_ _))))).mono ?_;rintro e w' ⟨rfl,hw9⟩;have hw9:=hw9.symm;subst hw9))
        go_ret;refine⟨?_,by repeat (first|exact hE.out|(refine A0.drew_ ?_)|(refine A0.drewN_ ?_ _)|(refine A0.alloc_ ?_ _))⟩;rw[HCHK.out,HALL.out,B4e HSH.out HM.out.ok k HKL.out (by have key:=E2t (st:=C6 M) (pre:=M.ids.take k) (x:=(x1,x2)) q3;rw[HXX.out] at key;exact key)];rfl
       ·go_wp2_with (first
         | (go_at_call 80;refine (HPT.out _).mono ?_;rintro e w' ⟨rfl,hw9⟩;have hw9:=hw9.symm;subst hw9)
         | (go_at_call 81;refine (HOA.out _ (HLR.out.ext (by repeat (first|exact hE2.out|(refine A0.drew_ ?_)|(refine A0.drewN_ ?_ _)|(refine A0.alloc_ ?_ _))))).mono ?_;rintro e w' ⟨rfl,hw9⟩;have hw9:=hw9.symm;subst hw9))
        refine P4 (fun W5 hW5=>?_);have hE5:A0 wr W5:=by rw[hW5];repeat (first|exact A0.refl _|(refine A0.drew_ ?_)|(refine A0.drewN_ ?_ _)|(refine A0.alloc_ ?_ _))
        have HE5:=Hz hE5;have y0:W5.cell? ⟨wr.heap.size,0,none⟩=some (.int .u64 x1):=by rw[hW5];simp[go_sem]
        have y1:W5.cell? ⟨wr.heap.size,1,none⟩=some (.int .i64 x2):=by rw[hW5];simp[go_sem]
        have vI:=hE5.cell_ yI;have HOK3:Hid (F8 (C6 M) (B6 x1)=true):=by rw[Hid,←HPQ.out,←HON.out];exact decide_eq_true (by omega)
        have HOK1:Hid (¬B6 x1<0):=by rw[Hid,←HPQ.out];omega
        clear hW5 hE5 hc1 hc2 yI
        go_loopw [15] (fun j wr=>∃ (jn:Nat),jn≤k∧j=.int .i64 (jn:Int)∧Hid (∀ i (hi:i<M.ids.length),i<jn→A4l M.ids[i] (x1,x2)=false)∧Hid (A0 W5 wr)) (fun j _=>k-(intOf j).toNat)
        case atStart=>exact⟨0,Zo _,rfl,Hz (fun j _ hj=>absurd hj (Nat.not_lt_zero _)),A0.refl W5⟩
        case round =>
         obtain⟨jn,hjn,rfl,hJ,hX⟩:=hrel;by_cases hjl:jn<k
         ·have hjl2:jn<M.ids.length:=by omega
          obtain⟨p1,p2⟩:=A6u M.ids jn hjl2;have hc1:=(HIA.out ▸ HI.out).at_ p1;have hc2:=(HIA.out ▸ HI.out).at_ p2;rw[←Zn] at hc2
          replace hc1:=hX.out.cell_ (HE5.out.cell_ (hE.out.cell_ hc1))
          replace hc2:=hX.out.cell_ (HE5.out.cell_ (hE.out.cell_ hc2))
          have zI:=hX.out.cell_ vI;have z0:=hX.out.cell_ y0;have z1:=hX.out.cell_ y1;have hjz:(jn:Int)<(k:Int):=by omega
          have hjz2:(jn:Int)<(M.ids.length:Int):=by omega
          have HJL:=Hz hjl2;generalize hy:M.ids[jn]=y at hc1 hc2;obtain⟨v1,v2⟩:=y;have HYY:=Hz hy.symm;simp only at hc1 hc2;clear p1 p2 hy
          cases r1:(v1==x1) with
          | true =>
           have HTW:Hid (A4l (v1,v2) (x1,x2)=true):=by unfold Hid A4l;simp only;rw[r1];rfl
           go_wp2
           go_quiet (fail)
           go_wp2;go_ret;refine⟨?_,A0.trans_ (A0.trans_ hE.out HE5.out) (by repeat (first|exact hX.out|(refine A0.drew_ ?_)|(refine A0.drewN_ ?_ _)|(refine A0.alloc_ ?_ _)))⟩;rw[HCHK.out,HALL.out,B4e HSH.out HM.out.ok k HKL.out (by have key:=C6p (st:=C6 M) (pre:=M.ids.take k) (x:=(x1,x2)) (y:=(v1,v2)) (by rw[HYY.out,Zj];exact⟨jn,by simp;omega,by rw[Zi];rfl⟩) HTW.out;rw[HXX.out] at key;exact key)];rfl
          | false =>
           cases r2:(v2==x2) with
           | true =>
            have HTW:Hid (A4l (v1,v2) (x1,x2)=true):=by unfold Hid A4l;simp only;rw[r1,r2];rfl
            go_wp2
            go_quiet (fail)
            go_wp2;go_ret;refine⟨?_,A0.trans_ (A0.trans_ hE.out HE5.out) (by repeat (first|exact hX.out|(refine A0.drew_ ?_)|(refine A0.drewN_ ?_ _)|(refine A0.alloc_ ?_ _)))⟩;rw[HCHK.out,HALL.out,B4e HSH.out HM.out.ok k HKL.out (by have key:=C6p (st:=C6 M) (pre:=M.ids.take k) (x:=(x1,x2)) (y:=(v1,v2)) (by rw[HYY.out,Zj];exact⟨jn,by simp;omega,by rw[Zi];rfl⟩) HTW.out;rw[HXX.out] at key;exact key)];rfl
           | false =>
            have HTW:Hid (A4l (v1,v2) (x1,x2)=false):=by unfold Hid A4l;simp only;rw[r1,r2];rfl
            go_wp2
            go_quiet (fail)
            go_wp2
            go_roundw
            case rel=>exact⟨jn+1,by omega,by go_num,Hz (fun i hi hij=>by
             by_cases e:i=jn
             ·subst e;have key:=HTW.out;rw[HYY.out] at key;exact key
             ·exact hJ.out i hi (by omega)),by repeat (first|exact hX.out|(refine A0.drew_ ?_)|(refine A0.drewN_ ?_ _)|(refine A0.alloc_ ?_ _))⟩
            case measure=>simp[intOf];omega
         ·have hjz:¬(jn:Int)<(k:Int):=by omega
          obtain rfl:jn=k:=by omega
          go_wp2
          go_roundw
          case rel=>exact⟨jn+1,by have:=HKL.out;omega,by go_num,Hz (fun i hi hij=>by
           by_cases e:i=jn
           ·subst e;have key:=E2v (pre:=M.ids.take i) (x:=(x1,x2)) HOK1.out HOK3.out (by show ¬x2<1;omega) (fun i2 hi2=>by rw[Zi];exact hJ.out i2 _ (by have:=hi2;simp at this;omega));rw[HXX.out] at key;exact key
           ·exact hI.out i hi (by omega)),A0.trans_ (A0.trans_ hE.out HE5.out) hX.out,A0.trans_ (A0.trans_ hE2.out HE5.out) hX.out⟩
          case measure=>have:=HKL.out;simp[intOf];omega
    ·obtain rfl:k=M.ids.length:=by omega
     have hltz:¬(M.ids.length:Int)<(M.ids.length:Int):=by omega
     have HIG:Hid (T0 (C6 M) [] M.ids=true):=Hz (E3d HSH.out HM.out.ok (fun j hj=>hI.out j hj hj))
     cases q with
     | true =>
      go_wp2;go_ret;exact⟨by rw[HCHK.out,HALL.out,HIG.out,←HQC.out];rfl,hE.out⟩
     | false =>
      go_wp2;go_ret;exact⟨by rw[HCHK.out,HALL.out,HIG.out,←HQC.out];rfl,hE.out⟩
def T5 (W:List Int) (out:List Ob) (u:Int):List Ob:=if 0≤B6 u∧F8 (G9 out) (B6 u)=false then out++[D4 W (B6 u).toNat] else out
def M8 (W:List Int) (out:List Ob) (us:List Int):List Ob:=us.foldl (T5 W) out
def K8 (W:List Int) (o:Ob):List Int:=(List.range o.n).map fun i=>A6 W (o.a+1+i)
def V7 (W:List Int) (out:List Ob) (o:Ob):List Ob:=if D2 (B3 o.w) then out else M8 W out (K8 W o)
def reachG (W:List Int):Nat→Nat→List Ob→List Ob
 | 0,_,out=>out
 | f+1,k,out =>
  match out[k]? with
  | none=>out
  | some o=>reachG W f (k+1) (V7 W out o)
def F5 (M:A7):List Ob:=reachG M.W M.W.length 0 (M8 M.W [] M.roots)
structure Y5 (M:A7) (out:List Ob):Prop where
 nodup:(out.map (·.a)).Nodup
 mem:∀ o∈out,o∈D8 M
theorem Y5.nil (M:A7):Y5 M []:=⟨by simp,fun o h=>by simp at h⟩
theorem E9u {M:A7} {u:Int} (hf:D0 (C6 M) u=true) (h:0≤B6 u):∃ x∈D8 M,(x.a:Int)=B6 u∧D4 M.W (B6 u).toNat=x:=by
 unfold B6 at h ⊢
 split at h
 ·rename_i hc;rw[if_pos hc];have hin:C9 u∈C6 M:=by
   unfold D0 at hf;rw[if_pos hc.1] at hf;simp only[Bool.or_eq_true,beq_iff_eq] at hf;rcases hf with q|q
   ·exact absurd q hc.2.1
   ·exact Ze.1 q
  obtain⟨x,hx,e⟩:=Zk.1 hin;refine⟨x,hx,e,?_⟩;have hw:x.w=A6 M.W x.a:=by
   rcases B4m hx with q|q
   ·exact q.w
   ·exact q.w
  rw[←e,Int.toNat_natCast];unfold D4;rw[←hw]
 ·omega
theorem Y5.come {M:A7} {out:List Ob} (h:Y5 M out) {u:Int} (hf:D0 (C6 M) u=true):Y5 M (T5 M.W out u):=by
 unfold T5
 split
 ·rename_i hc;obtain⟨x,hx,e1,e2⟩:=E9u hf hc.1;rw[e2];refine⟨?_,fun o ho=>?_⟩
  ·rw[List.map_append,List.nodup_append];refine⟨h.nodup,by simp,fun a ha b hb e=>?_⟩;simp only[List.map_cons,List.map_nil,Zm] at hb;subst hb e;obtain⟨o,ho,e3⟩:=Zk.1 ha;have:F8 (G9 out) (B6 u)=true:=Ze.2 (Zk.2 ⟨o,ho,by rw[e3];exact e1⟩);rw[hc.2] at this;cases this
  ·rcases List.mem_append.1 ho with q|q
   ·exact h.mem o q
   ·rw[Zm.1 q];exact hx
 ·exact h
theorem Y5.comes {M:A7}:∀ (us:List Int) (out:List Ob),Y5 M out→(∀ u∈us,D0 (C6 M) u=true)→Y5 M (M8 M.W out us)
 | [],out,h,_=>h
 | u::us,out,h,hf=>Y5.comes us _ (h.come (hf u (by simp))) fun v hv=>hf v (by simp[hv])
theorem Y5.step {M:A7} (hfl:(D8 M).all (R2 M (C6 M))=true) {out:List Ob} (h:Y5 M out) {o:Ob} (ho:o∈D8 M):Y5 M (V7 M.W out o):=by
 unfold V7
 split
 ·exact h
 ·rename_i hr;refine Y5.comes _ _ h fun v hv=>?_
  obtain⟨k,hk,rfl⟩:=Zk.1 hv;exact B1t hfl ho (by simpa using hr) k (List.mem_range.1 hk)
theorem Y5.len {M:A7} {out:List Ob} (h:Y5 M out):out.length≤(D8 M).length:=by
 have h1:=B2a (out.map (·.a)) ((D8 M).map (·.a)) h.nodup fun k hk=>by
  obtain⟨o,ho,rfl⟩:=Zk.1 hk;exact List.mem_map_of_mem (f:=(·.a)) (h.mem o ho)
 simpa using h1
theorem C4n (W:List Int) (out:List Ob) (u:Int):∃ t,T5 W out u=out++t:=by
 unfold T5
 split
 ·exact⟨_,rfl⟩
 ·exact⟨[],by simp⟩
theorem B9x (W:List Int):∀ (us:List Int) (out:List Ob),∃ t,M8 W out us=out++t
 | [],out=>⟨[],by simp[M8]⟩
 | u::us,out=>by
  obtain⟨t,ht⟩:=C4n W out u;obtain⟨s,hs⟩:=B9x W us (T5 W out u);exact⟨t++s,by unfold M8 at hs ⊢;rw[Zf,hs,ht,List.append_assoc]⟩
theorem B8i (W:List Int) (out:List Ob) (o:Ob):∃ t,V7 W out o=out++t:=by
 unfold V7
 split
 ·exact⟨[],by simp⟩
 ·exact B9x W _ _
theorem D0w {M:A7} (hfl:(D8 M).all (R2 M (C6 M))=true):∀ (f k:Nat) (out:List Ob),Y5 M out→Y5 M (reachG M.W f k out)
 | 0,_,out,h=>h
 | f+1,k,out,h=>by
  unfold reachG
  cases e:out[k]? with
  | none=>exact h
  | some o=>exact D0w hfl f (k+1) _ (h.step hfl (h.mem o (Zl e)))
theorem A7c {M:A7} (hg:goodB M=true):Y5 M (F5 M):=by
 obtain⟨hs,hob,hr,hw,hfo,hid⟩:=K5 hg;refine D0w hfo _ _ _ (Y5.comes _ _ (Y5.nil M) fun u hu=>?_);unfold J6 at hr;rw[List.all_eq_true] at hr;exact hr u hu
def Q6 (f:Nat→Nat) (Dom:Nat→Prop) (u v:Int):Prop:=(B6 u<0∧v=u)∨∃ a:Nat,B6 u=(a:Int)∧Dom a∧B6 v=(f a:Int)∧C7 u=0∧u≠0∧C7 v=0∧v≠0
structure A0m (V W:List Int) (Dom:Nat→Prop) (f:Nat→Nat):Prop where
 inj:∀ a b,Dom a→Dom b→f a=f b→a=b
 kind:∀ a,Dom a→B3 (A6 W (f a))=B3 (A6 V a)
 size:∀ a,Dom a→B5 (A6 W (f a))=B5 (A6 V a)
 fld:∀ a,Dom a→D2 (B3 (A6 V a))=false→∀ k,k<A9 V a→Q6 f Dom (A6 V (a+1+k)) (A6 W (f a+1+k))
 raw:∀ a,Dom a→D2 (B3 (A6 V a))=true→∀ k,k<A9 V a→A6 W (f a+1+k)=A6 V (a+1+k)
section
variable {V W:List Int} {Dom:Nat→Prop} {f:Nat→Nat}
def InD (V:List Int) (Dom:Nat→Prop) (out:List Ob):Prop:=∀ o∈out,Dom o.a∧o=D4 V o.a
theorem E3h (hm:A0m V W Dom f) {out:List Ob} (h:InD V Dom out) {a:Nat} (ha:Dom a):F8 (G9 (out.map fun o=>D4 W (f o.a))) (f a:Int)=F8 (G9 out) (a:Int):=by
 rw[Bool.eq_iff_iff];unfold F8 G9;rw[Ze,Ze,List.map_map];constructor
 ·intro q;obtain⟨o,ho,e⟩:=Zk.1 q;have e':(f o.a:Int)=(f a:Int):=e;exact Zk.2 ⟨o,ho,by rw[hm.inj o.a a (h o ho).1 ha (by omega)]⟩
 ·intro q;obtain⟨o,ho,e⟩:=Zk.1 q;refine Zk.2 ⟨o,ho,?_⟩;show (f o.a:Int)=_;rw[show o.a=a by omega]
theorem D7z (hm:A0m V W Dom f) {out:List Ob} (h:InD V Dom out) {u v:Int} (hc:Q6 f Dom u v):T5 W (out.map fun o=>D4 W (f o.a)) v=(T5 V out u).map (fun o=>D4 W (f o.a))∧InD V Dom (T5 V out u):=by
 unfold T5;rcases hc with⟨h1,h2⟩|⟨a,h1,h2,h3,_⟩
 ·subst h2;rw[if_neg (by omega),if_neg (by omega)];exact⟨rfl,h⟩
 ·rw[h1,h3,E3h hm h h2];by_cases q:F8 (G9 out) (a:Int)=false
  ·rw[if_pos ⟨by omega,q⟩,if_pos ⟨by omega,q⟩,List.map_append];refine⟨rfl,fun o ho=>?_⟩;rcases List.mem_append.1 ho with ho|ho
   ·exact h o ho
   ·rw[Zm.1 ho];exact⟨h2,rfl⟩
  ·rw[if_neg (fun e=>q e.2),if_neg (fun e=>q e.2)];exact⟨rfl,h⟩
theorem B6c (hm:A0m V W Dom f):∀ (us vs:List Int) (out:List Ob),InD V Dom out→us.length=vs.length→(∀ i,i<us.length→Q6 f Dom (us.getD i 0) (vs.getD i 0)) →
  M8 W (out.map fun o=>D4 W (f o.a)) vs=(M8 V out us).map (fun o=>D4 W (f o.a))∧InD V Dom (M8 V out us)
 | [],[],out,h,_,_=>⟨rfl,h⟩
 | u::us,v::vs,out,h,hl,hc=>by
  obtain⟨e1,e2⟩:=D7z (u:=u) (v:=v) hm h (hc 0 (by simp));obtain⟨e3,e4⟩:=B6c hm us vs _ e2 (by simpa using hl) fun i hi=>by simpa using hc (i+1) (by simpa using hi)
  have e1':T5 W (out.map fun o=>D4 W (f o.a)) v=(T5 V out u).map (fun o=>D4 W (f o.a)):=e1;unfold M8 at e3 e4 ⊢;rw[Zf,Zf,e1',e3];exact⟨rfl,e4⟩
theorem F6e (hm:A0m V W Dom f) {out:List Ob} (h:InD V Dom out) {o:Ob} (ho:o∈out):V7 W (out.map fun o=>D4 W (f o.a)) (D4 W (f o.a))=(V7 V out o).map (fun o=>D4 W (f o.a))∧InD V Dom (V7 V out o):=by
 obtain⟨hd,e⟩:=h o ho;have ew:o.w=A6 V o.a:=by rw[e];rfl
 unfold V7;have hk:B3 (D4 W (f o.a)).w=B3 o.w:=by rw[ew];exact hm.kind _ hd
 rw[hk]
 cases hr:D2 (B3 o.w) with
 | true=>exact⟨rfl,h⟩
 | false =>
  simp only[Bool.false_eq_true,if_false];have hn:(D4 W (f o.a)).n=o.n:=by unfold Ob.n;rw[ew];show (B5 (A6 W (f o.a))).toNat=_;rw[hm.size _ hd]
  refine B6c hm _ _ _ h (by simp[K8,hn]) fun i hi=>?_
  have hi':i<o.n:=by simpa [K8] using hi
  have g1:(K8 V o).getD i 0=A6 V (o.a+1+i):=by simp[K8,Zg,hi']
  have g2:(K8 W (D4 W (f o.a))).getD i 0=A6 W (f o.a+1+i):=by
   have hi2:i<(D4 W (f o.a)).n:=by rw[hn];exact hi'
   simp[K8,Zg,hi2];rfl
  rw[g1,g2];refine hm.fld o.a hd (by rw[←ew];exact hr) i ?_;unfold A9;rw[←ew];exact hi'
theorem C2j (hm:A0m V W Dom f):∀ (n k:Nat) (out:List Ob),InD V Dom out→reachG W n k (out.map fun o=>D4 W (f o.a))=(reachG V n k out).map (fun o=>D4 W (f o.a))∧InD V Dom (reachG V n k out)
 | 0,_,out,h=>⟨rfl,h⟩
 | n+1,k,out,h=>by
  unfold reachG;rw[List.getElem?_map]
  cases e:out[k]? with
  | none=>exact⟨rfl,h⟩
  | some o =>
   obtain⟨s1,s2⟩:=F6e hm h (Zl e);simp only[Option.map_some];rw[s1];exact C2j hm n (k+1) _ s2
end
theorem D0y {M N:A7} {Dom:Nat→Prop} {f:Nat→Nat} (hm:A0m M.W N.W Dom f) (hl:N.W.length=M.W.length) (hr:M.roots.length=N.roots.length) (hc:∀ i,i<M.roots.length→Q6 f Dom (M.roots.getD i 0) (N.roots.getD i 0)) :
  F5 N=(F5 M).map (fun o=>D4 N.W (f o.a))∧InD M.W Dom (F5 M):=by
 obtain⟨s1,s2⟩:=B6c hm M.roots N.roots [] (fun o ho=>by simp at ho) hr hc;have s1':M8 N.W [] N.roots=(M8 M.W [] M.roots).map (fun o=>D4 N.W (f o.a)):=s1;unfold F5;rw[s1',hl];exact C2j hm _ 0 _ s2
def A2p (l:List Ob) (out:ByteArray) (u:Int):ByteArray:=((out++⟨#[114,111,111,116,32]⟩)++T4 u l)++⟨#[10]⟩
def A1l (l:List Ob) (us:List Int) (out:ByteArray):ByteArray:=us.foldl (A2p l) out
def A1e (l:List Ob) (kind:Int) (out:ByteArray) (u:Int):ByteArray:=if kind<8 then (out++⟨#[32,48,120]⟩)++C0r u else (out++⟨#[32]⟩)++T4 u l
def A1f (l:List Ob) (kind:Int) (us:List Int) (out:ByteArray):ByteArray:=us.foldl (A1e l kind) out
def A0f (i:Nat) (kind:Int) (out:ByteArray):ByteArray:=((out++P8 (i:Int))++⟨#[32]⟩)++P8 kind
def B7u (W:List Int) (l:List Ob):Nat→List Ob→ByteArray→ByteArray
 | _,[],out=>out
 | i,o::r,out=>B7u W l (i+1) r (A1f l (B3 o.w) (K8 W o) (A0f i (B3 o.w) out)++⟨#[10]⟩)
def A8e (M:A7):ByteArray:=B7u M.W (F5 M) 0 (F5 M) (A1l (F5 M) M.roots ⟨#[]⟩)
section
variable {V W:List Int} {Dom:Nat→Prop} {f:Nat→Nat}
theorem E8m (hm:A0m V W Dom f):∀ (l:List Ob),InD V Dom l→∀ a:Nat,Dom a→L9 (l.map fun o=>D4 W (f o.a)) (f a:Int)=L9 l (a:Int)
 | l,h,a,ha=>by
  unfold L9
  suffices key:List.findIdx? (fun o:Ob=>(o.a:Int)==(f a:Int)) (l.map fun o=>D4 W (f o.a))=List.findIdx? (fun o:Ob=>(o.a:Int)==(a:Int)) l by rw[key]
  induction l with
  | nil=>rfl
  | cons o l ih =>
   have ih':=ih fun x hx=>h x (by simp[hx])
   rw[List.map_cons,List.findIdx?_cons,List.findIdx?_cons];have e:(((D4 W (f o.a)).a:Int)==(f a:Int))=((o.a:Int)==(a:Int)):=by
    rw[Bool.eq_iff_iff];simp only[beq_iff_eq];show (f o.a:Int)=(f a:Int)↔_;constructor
    ·intro q;have:=hm.inj o.a a (h o (by simp)).1 ha (by omega);omega
    ·intro q;rw[show o.a=a by omega]
   rw[e,ih']
theorem D2j (hm:A0m V W Dom f) {l:List Ob} (h:InD V Dom l) {u v:Int} (hc:Q6 f Dom u v):T4 v (l.map fun o=>D4 W (f o.a))=T4 u l:=by
 rcases hc with⟨h1,h2⟩|⟨a,h1,h2,h3,h4,h5,h6,h7⟩
 ·subst h2;unfold T4;have e:∀ l:List Ob,L9 l (B6 v)=-1:=fun l=>by
   unfold L9;rw[List.findIdx?_eq_none_iff.2 (fun x hx=>by
    simp only[beq_eq_false_iff_ne,ne_eq];omega)]
   rfl
  rw[e,e]
 ·unfold C7 at h4 h6;have key:∀ (u:Int) (l:List Ob),u%4=0→u≠0→T4 u l=(if L9 l (B6 u)<0 then ⟨#[64]⟩ else ⟨#[64]⟩++P8 (L9 l (B6 u))):=fun u l g1 g2=>by
   unfold T4;rw[if_neg (show ¬u%4=1 by omega),if_neg (show ¬u%4=2 by omega),if_neg g2]
  rw[key v _ h6 h7,key u _ h4 h5,h1,h3,E8m hm l h a h2]
theorem D1c (hm:A0m V W Dom f) {l:List Ob} (h:InD V Dom l):∀ (us vs:List Int) (out:ByteArray),us.length=vs.length→(∀ i,i<us.length→Q6 f Dom (us.getD i 0) (vs.getD i 0))→A1l (l.map fun o=>D4 W (f o.a)) vs out=A1l l us out
 | [],[],out,_,_=>rfl
 | u::us,v::vs,out,hl,hc=>by
  have h0:Q6 f Dom u v:=hc 0 (by simp);have ih:=D1c hm h us vs (A2p l out u) (by simpa using hl) fun i hi=>by simpa using hc (i+1) (by simpa using hi)
  unfold A1l at ih ⊢;rw[Zf,Zf,←ih];unfold A2p;rw[D2j hm h h0]
theorem C5j (hm:A0m V W Dom f) {l:List Ob} (h:InD V Dom l) (kind:Int) (hk:¬kind<8):∀ (us vs:List Int) (out:ByteArray),us.length=vs.length→(∀ i,i<us.length→Q6 f Dom (us.getD i 0) (vs.getD i 0))→A1f (l.map fun o=>D4 W (f o.a)) kind vs out=A1f l kind us out
 | [],[],out,_,_=>rfl
 | u::us,v::vs,out,hl,hc=>by
  have h0:Q6 f Dom u v:=hc 0 (by simp);have ih:=C5j hm h kind hk us vs (A1e l kind out u) (by simpa using hl) fun i hi=>by simpa using hc (i+1) (by simpa using hi)
  unfold A1f at ih ⊢;rw[Zf,Zf,←ih];unfold A1e;rw[if_neg hk,if_neg hk,D2j hm h h0]
end
def A1j (u:Int):Bool:=decide (u%4=0)&&decide (u≠0)
def A8i (M:A7) (u:Int):Bool:=decide (0≤B6 u)&&F8 (G9 (F5 M)) (B6 u)
structure B9e (all:Bool) (M N:A7) (go:Int→Int × Bool) (Dom:Nat→Prop) (f:Nat→Nat):Prop where
 morph:A0m M.W N.W Dom f
 lenW:N.W.length=M.W.length
 lenR:M.roots.length=N.roots.length
 roots:∀ i,i<M.roots.length→Q6 f Dom (M.roots.getD i 0) (N.roots.getD i 0)
 weak:N.weak=M.weak.map fun a=>if (go a).2 then (go a).1 else 2
 ids:N.ids=M.ids.filterMap fun x=>if (go x.1).2 then some ((go x.1).1,x.2) else none
 yes:∀ u,D0 (C6 M) u=true→(go u).2=true→Q6 f Dom u (go u).1
 no:∀ u,D0 (C6 M) u=true→(go u).2=false→A1j u=true∧A8i M u=false
 all_:all=true→∀ u,D0 (C6 M) u=true→(go u).2=true→A1j u=true→A8i M u=true
 goodM:goodB M=true
 goodN:goodB N=true
def B2u (us vs:List Int):Nat→List (Int × Int)
 | 0=>[]
 | k+1=>if A1j (us.getD k 0)=true∧vs.getD k 0≠2 then B2u us vs k++[(us.getD k 0,vs.getD k 0)] else B2u us vs k
def A7z (ids:List (Int × Int)) (s:Int):Nat→Int
 | 0=>-1
 | k+1=>if (ids.getD k (0,0)).2=s then (k:Int) else A7z ids s k
def B1w (is js:List (Int × Int)):Nat→List (Int × Int)
 | 0=>[]
 | k+1=>if 0≤A7z js (is.getD k (0,0)).2 js.length then B1w is js k++[((is.getD k (0,0)).1,(js.getD (A7z js (is.getD k (0,0)).2 js.length).toNat (0,0)).1)] else B1w is js k
def A9o (M:A7) (l:List Int):A7:={M with roots:=M.roots++l}
structure F9i (all:Bool) (M N:A7):Prop where
 len:N.weak.length=M.weak.length
 each:∀ i,i<M.weak.length→(A1j (M.weak.getD i 0)=false∧N.weak.getD i 0=M.weak.getD i 0)∨(A1j (M.weak.getD i 0)=true∧N.weak.getD i 0=2∧A8i M (M.weak.getD i 0)=false)∨(A1j (M.weak.getD i 0)=true∧N.weak.getD i 0≠2∧(all=true→A8i M (M.weak.getD i 0)=true))
 goodA:goodB (A9o M ((B2u M.weak N.weak M.weak.length).map (·.1)))=true
 goodB_:goodB (A9o N ((B2u M.weak N.weak M.weak.length).map (·.2)))=true
 graph:A8e (A9o N ((B2u M.weak N.weak M.weak.length).map (·.2)))=A8e (A9o M ((B2u M.weak N.weak M.weak.length).map (·.1)))
structure F9f (M N:A7):Prop where
 len:N.ids.length≤M.ids.length
 each:∀ i,i<M.ids.length→A8i M (M.ids.getD i (0,0)).1=true→0≤A7z N.ids (M.ids.getD i (0,0)).2 N.ids.length
 goodA:goodB (A9o M ((B1w M.ids N.ids M.ids.length).map (·.1)))=true
 goodB_:goodB (A9o N ((B1w M.ids N.ids M.ids.length).map (·.2)))=true
 graph:A8e (A9o N ((B1w M.ids N.ids M.ids.length).map (·.2)))=A8e (A9o M ((B1w M.ids N.ids M.ids.length).map (·.1)))
section
variable {all:Bool} {M N:A7} {go:Int→Int × Bool} {Dom:Nat→Prop} {f:Nat→Nat}
theorem A4d {st l:List Int} (h:J6 st l=true) {i:Nat} (hi:i<l.length):D0 st (l.getD i 0)=true:=by
 unfold J6 at h;rw[List.all_eq_true] at h;exact Y1 (P:=fun u=>D0 st u=true) h hi
theorem C2e {M:A7} (hg:goodB M=true) {u:Int} (hf:D0 (C6 M) u=true) (hp:A1j u=true):0≤B6 u:=by
 unfold A1j at hp;simp only[Bool.and_eq_true,decide_eq_true_eq] at hp;have hk:C7 u=0:=hp.1;unfold D0 at hf;rw[if_pos hk] at hf;simp only[Bool.or_eq_true,beq_iff_eq] at hf;rcases hf with q|q
 ·exact absurd q hp.2
 ·obtain⟨x,hx,e⟩:=Zk.1 (Ze.1 q);have hs:=(K5 hg).1;have h1:=(A2z hs hx).1;have h2:=A3u hs;unfold B6;rw[if_pos ⟨hk,hp.2,by unfold C9 at e;omega⟩];unfold C9 at e ⊢;omega
theorem E0i (ids:List (Int × Int)) (s:Int):∀ k:Nat,(A7z ids s k=-1∧∀ j,j<k→(ids.getD j (0,0)).2≠s)∨(0≤A7z ids s k∧A7z ids s k<(k:Int)∧(ids.getD (A7z ids s k).toNat (0,0)).2=s)
 | 0=>Or.inl ⟨rfl,fun j hj=>by omega⟩
 | k+1=>by
  unfold A7z
  split
  ·rename_i hc;right;refine⟨by omega,by omega,?_⟩;rw[Int.toNat_natCast];exact hc
  ·rename_i hc;rcases E0i ids s k with⟨q1,q2⟩|⟨q1,q2,q3⟩
   ·refine Or.inl ⟨q1,fun j hj=>?_⟩;by_cases e:j=k
    ·subst e;exact hc
    ·exact q2 j (by omega)
   ·exact Or.inr ⟨q1,by omega,q3⟩
end
end Go.Proofs.YtelhoppfidibiaaGreatDoor
