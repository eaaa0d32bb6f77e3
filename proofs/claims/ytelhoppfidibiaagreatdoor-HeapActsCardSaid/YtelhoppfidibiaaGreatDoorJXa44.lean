/- The law HeapActs, walked. -/
import Derived.Test.YtelhoppfidibiaaGreatDoorJXa43
import Derived.Test.YtelhoppfidibiaaGreatDoorJXa39
set_option linter.unusedSimpArgs false
set_option linter.unusedVariables false
set_option maxHeartbeats 16000000
set_option maxRecDepth 100000
open Go.Proofs.Tryz renaming prog→Za
namespace Go.Proofs.YtelhoppfidibiaaGreatDoor
open Go.RowKit
theorem E1u (half old card:Int) (n:Nat) (h:A1i half old card=true) (hn:n≤5000):AI (A3j half old card n) 1 old n 0:=by
 refine⟨B7m half old card n h hn,rfl,?_,?_,?_,by omega⟩<;>simp[A3j,T3]
theorem B9w {E:Nat→Addr} {w:World} (h:A6s E w) (c d:Int) (h1:0≤c) (h2:c≤7) (hd:1≤d):Calls Za 28 #[F1 E c,.int .i64 d] w fun e w'=>e=.returned (.bool (decide (c=d)))∧A0 w w':=by
 by_cases hc:c=0
 ·subst hc;refine (D7m d w).mono ?_;rintro e w' ⟨he,rfl⟩;refine⟨?_,A0.refl _⟩;rw[he,decide_eq_false (by omega)];congr 2;simp;omega
 ·have e1:F1 E c=E0 (E (c-1).toNat):=by unfold F1;rw[if_neg hc]
  rw[e1];refine (D7l h (c-1).toNat (by omega) d).mono ?_;rintro e w' ⟨he,hq⟩;refine⟨?_,hq⟩;rw[he,show ((((c-1).toNat:Nat):Int)+1)=c by omega];congr 2
theorem E4e (b o:Nat) (M:A7) (S:C8) (w:World) (hM:G8 w b o M S) (h:chk M=0):Calls Za 35 #[.pointer (some ⟨b,o,none⟩)] w fun e w'=>e=.returned (.int .i64 (chk M))∧A0 w w':=by
 cases hs:P1 M with
 | false =>
  have e:chk M=3:=by unfold chk goodB;rw[hs];rfl
  rw[e] at h;cases h
 | true =>
  cases hb:((kN M).2&&(kO M).2) with
  | false =>
   have e:chk M=3:=by unfold chk goodB;rw[hs,E4b hb];rfl
   rw[e] at h;cases h
  | true =>
   cases hr:J6 (C6 M) M.roots with
   | false =>
    have e:chk M=3:=by unfold chk goodB;rw[hs,hr];simp
    rw[e] at h;cases h
   | true =>
    cases hk:J6 (C6 M) M.weak with
    | false =>
     have e:chk M=3:=by unfold chk goodB;rw[hs,hr,hk];simp
     rw[e] at h;cases h
    | true=>exact E4d b o M S w hM hs hb hr hk
theorem C5d {E:Nat→Addr} {c:Int} (h:c≠0):∃ ea,F1 E c=E0 ea:=⟨_,by unfold F1;rw[if_neg h]⟩
def B6i (l:List E4) (half old roots:Int):Bool:=!A8u l||decide (2000<half)||decide (2000<old)||decide (20<roots)
theorem E2f (half old card ten roots:Int) (A:Option Addr) (C:Nat) (l:List E4) (w:World) (E:Nat→Addr) (hE:A6s E w) (hT:A3p w) (hR:B1h w A l) :
  Calls Za 8 #[.int .i64 half,.int .i64 old,.int .i64 card,.int .i64 ten,.int .i64 roots,.slice A l.length C] w fun e w'=>e=.returned (.bool true)∧A0 w w':=by
 have HE:=Hz hE;have HG:=Hz hE.g4;have HTB:=Hz hT;have HR:=Hz hR;clear hE hT hR
 go_enter Tryz.func8,Tryz.ntmps8
 go_upto_region 2 with (go_at_call 9;refine (C0u E _ HG.out HTB.out).mono ?_;rintro e w1 ⟨rfl,hq⟩;have HX1:=Hz hq;clear hq)
 go_cut [44] from 26 to 44 (fun c wx=>c=.bool (B6i l half old roots)∧Hid (A0 w wx))
 case first =>
  obtain⟨br,hbr⟩:∃ br,A8u l=br:=⟨_,rfl⟩
  cases br<;>by_cases a1:2000<half<;>by_cases a3:2000<old<;>by_cases a4:20<roots
  all_goals
   have hfb:B6i l half old roots=(!A8u l||decide (2000<half)||decide (2000<old)||decide (20<roots)):=rfl;simp only[hbr,a1,a3,a4,decide_true,decide_false,Bool.true_and,Bool.and_true,Bool.and_false,Bool.false_and,Bool.or_false,Bool.false_or,Bool.true_or,Bool.or_true,Bool.not_true,Bool.not_false] at hfb;have HFB:=Hz hfb;have HBR:=Hz hbr;clear hfb hbr
   go_wp2_with (go_at_call 26;refine (D5t l A C _ (HR.out.ext HX1.out)).mono ?_;rintro e w2 ⟨he,hq⟩;rw[HBR.out] at he;subst he;have HX2:Hid (A0 w w2):=HX1.out.trans_ hq;clear hq)
   go_meet
   case rel=>exact⟨(by first|(rw[HFB.out];done)|(rw[HFB.out,decide_eq_false (show ¬2000<half by omega),decide_eq_false (show ¬2000<old by omega),decide_eq_false (show ¬20<roots by omega)];rfl)),HX2.out⟩
 case rest =>
  obtain⟨rfl,HX2⟩:=hcut
  cases hfar:B6i l half old roots with
  | true =>
   go_wp2;go_ret;exact⟨rfl,HX2.out⟩
  | false =>
   have hfz:l.length≤120∧half≤2000∧old≤2000∧roots≤20:=by
    unfold B6i at hfar;simp only[Bool.or_eq_false_iff,Bool.not_eq_false',decide_eq_false_iff_not] at hfar;obtain⟨⟨⟨g1,g2⟩,g3⟩,g4⟩:=hfar;exact⟨D5s g1,by omega,by omega,by omega⟩
   obtain⟨z1,z2,z3,z5⟩:=hfz;clear hfar
   cases hval:B8q half old card ten roots with
   | false =>
    have HVAL:=Hz hval;clear hval
    go_wp2_with (go_at_call 10;refine (E2m half old card ten roots HVAL.out _ E (HG.out.ext HX2.out)).mono ?_;rintro e w3 ⟨rfl,hq⟩;have HX3:Hid (A0 w w3):=HX2.out.trans_ hq;clear hq)
    go_ret;exact⟨rfl,HX3.out⟩
   | true =>
    unfold B8q at hval;simp only[Bool.and_eq_true,decide_eq_true_eq] at hval;obtain⟨⟨⟨⟨hok,t0⟩,t1⟩,r0⟩,r1⟩:=hval;obtain⟨R,rfl⟩:∃ R:Nat,roots=(R:Int):=⟨roots.toNat,by omega⟩;have HOK:=Hz hok;have ht:0≤ten∧ten≤15:=⟨t0,t1⟩;have HLN:=Hz z1;have HRL:=Hz HR.out.len;have hR20:R≤20:=by omega
    clear hok t0 t1 r0 r1 z1 z2 z3 z5
    go_upto_region 7 with (go_at_call 10;refine (C0s half old card ten R HOK.out ht (by omega) _).mono ?_;rintro e w3 ⟨hb,b,S0,rfl,h1,hq⟩;have HH3:=Hz h1;have HX3:Hid (A0 w w3):=HX2.out.trans_ hq;clear h1 hq)
    go_upto_region 9 with (go_at_call 17;refine (C8x R (by omega) _).mono ?_;rintro e w4 ⟨X0,rfl,h1,hq⟩;have HM4:=Hz h1;have HQ4:=Hz hq;clear h1 hq)
    have HGB:=Hz ((HG.out.ext HX2.out).gb);have hD0:V5 w w4 wc.heap.size hb b w3.heap.size X0.mb ten old R 0 0 0 (A3j half old card R) S0 (B4.fresh R) 1 (B4.fresh R) 1 [] (.slice none 0 0) :=
     ⟨HH3.out.ext HQ4.out,⟨X0,rfl,HM4.out,fun i hi hm=>by have h1:=(HH3.out.own hi).2;have h2:=(HM4.out.own hm).1;omega,fun i hi=>by cases hi⟩,Or.inl ⟨rfl,rfl⟩,fun i hi=>(by cases hi),E1u _ _ _ R HOK.out (by omega),C6m _ _ _ R,B7a R,by simp[B4.fresh],by simp[B4.fresh],by simp[B4.fresh],fun i hi=>(by simp at hi),fun y hy=>(by simp[B4.fresh] at hy),by omega,⟨HX2.out.size,HX3.out.size⟩,HX3.out.trans_ HQ4.out⟩
    have HT0:=Hz hD0;obtain⟨B1,hB1⟩:∃ B1,wc.heap.size=B1:=⟨_,rfl⟩;obtain⟨B2,hB2⟩:∃ B2,w3.heap.size=B2:=⟨_,rfl⟩;obtain⟨mb,hmb⟩:∃ mb,X0.mb=mb:=⟨_,rfl⟩;rw[hB1] at HT0 HGB;rw[hB2,hmb] at HT0;rw[hmb];clear hD0 HH3 HM4 HQ4 hB1 hB2 hmb;go_wp2
    go_loopg [17,18] (l.length) (fun r gvs i wr=>∃ (k:Nat) (Mx:A7) (S:C8) (I:B4) (nx:Int) (g:List Bool) (gva:Option Addr) (gvc:Nat),k+r=l.length∧i=.int .i64 (k:Int)∧gvs=.slice gva g.length gvc∧Hid (V5 w wr B1 hb b B2 mb ten old R k k 0 Mx S I nx I nx g (.slice gva g.length gvc)))
    case atStart=>exact⟨0,_,S0,_,1,[],none,0,by omega,rfl,rfl,HT0.out.at eX⟩
    case round =>
     clear HT0;obtain⟨k,Mx,S,I,nx,g,gva,gvc,hk,rfl,rfl,hT⟩:=hrel;have hln:=HLN.out
     cases gk with
     | succ r =>
      have hlt:k<l.length:=by omega
      have hltz:(k:Int)<(l.length:Int):=by omega
      obtain⟨ga,o,hfe,hat0⟩:=HR.out.at_ k hlt;obtain⟨c0,c1,c2,c3,c4,c5⟩:=hat0.extD hT.out.ext;have hnum:=HR.out.nums l[k] (List.getElem_mem hlt);subst hfe;generalize l[k]=x at *
      have HNUM:=Hz hnum;have HK:=Hz hk;have hk1:k≤1000:=by omega
      have hl9:I.V.length≤900000000:=by have:=hT.out.len;omega
      have f1:IntKind.i64.wrap ((k:Int)+1)=((k+1:Nat):Int):=by rw[IntWalk.i64_in _ (by omega)];omega
      obtain⟨X,hXm,hMD,hap,hgp⟩:=hT.out.md;have hp1:¬HL hb b S wr.heap.size:=fun q=>by have:=(hT.out.oh.own q).2;omega
      have hp2:¬ML I X wr.heap.size:=fun q=>by have:=(hMD.own q).2;omega
      have hp3:¬(Value.slice gva g.length gvc).ownBlock=some wr.heap.size:=fun q=>by have:=(hT.out.gn.lt q).2;omega
      have HP1:=Hz hp1;have HP2:=Hz hp2;have HP3:=Hz hp3;have HMD:=Hz hMD;have HAP:=Hz (And.intro hap hgp);have HXM:=Hz hXm;clear hnum hat0 hk hMD hap hgp hp1 hp2 hp3 hXm
      go_upto_region 13 with fail
      obtain⟨wA,hwA⟩:∃ wA,wA=wr.alloc (.cells #[.string x.nm,.int .i64 x.a,.int .i64 x.b,.int .i64 x.c,.int .i64 x.n,.string x.s] 41):=⟨_,rfl⟩;have HOA:Hid (B0f wA wr.heap.size x):=by rw[hwA];exact⟨by simp[go_sem],by simp[go_sem],by simp[go_sem],by simp[go_sem],by simp[go_sem],by simp[go_sem]⟩
      have HXA:Hid (A0 wr wA):=by rw[hwA];exact A0.alloc_ (A0.refl _) _
      rw[←hwA];clear hwA c0 c1 c2 c3 c4 c5;have b0:=HOA.out.1
      go_upto_region 14 with (go_at_call 29;refine (E4n x.nm _).mono ?_;rintro e w4 ⟨bb,rfl,hb,hq⟩;have HKN:=Hz hb;have HX4:Hid (A0 wr w4):=HXA.out.trans_ hq;have HO4:=Hz (HOA.out.ext hq);clear hb hq b0;cases bb)
      ·
       go_roundg r
       case measure=>omega
       case rel=>exact⟨k+1,Mx,S,I,nx,g,gva,gvc,by have:=HK.out;omega,by go_num,rfl,((hT.out.at HX4.out).at eX).up (by omega) (by omega)⟩
      ·have hak:E8 x.nm≠.other:=HKN.out.1 (by simp);have HAK:=Hz hak;have HT4:=Hz (hT.out.at HX4.out);have HM4:=Hz (HMD.out.ext HX4.out);have hwl5:I.weak.length<5000:=by have:=hT.out.gl;have:=hT.out.hi.wlen;have:=hT.out.ai.weak;omega
       have HEW:=Hz (E6k x w4 HM4.out hT.out.wf (by omega) hwl5 hak);clear hak HKN hwl5;obtain⟨b0,b1,b2,b3,b4,b5⟩:=HO4.out;obtain⟨z,hz⟩:∃ z,I5 I (E8 x.nm) x=z:=⟨_,rfl⟩;have hz5:=D9h I (E8 x.nm) x;rw[hz] at HEW hz5;rw[HXM.out] at HEW;have HZ:=Hz hz;clear hz
       go_upto_region 15 with (go_at_call 30;refine HEW.out.mono ?_;rintro e w5 ⟨rfl,hq⟩;have HT5:=Hz (HT4.out.at hq);have HO5:=Hz (HO4.out.ext hq);have HM5:=Hz (HM4.out.ext hq);clear hq)
       clear HEW HT4 HO4 HM4 b0 b1 b2 b3 b4 b5;obtain⟨b0,b1,b2,b3,b4,b5⟩:=HO5.out;by_cases z0:z=0
       ·subst z0
        go_upto_region 16 with (go_at_call 27;refine (C3w HT5.out.oh HT5.out.ai (HG.out.ext HT5.out.ext) ht HGB.out HT5.out.hi (by omega) (HT5.out.wf.wk (by omega)) x ⟨HNUM.out.1,HNUM.out.2.1,HNUM.out.2.2.1⟩ hk1).mono ?_;rintro e w6 ⟨c,n,is,M2,S2,I2,nx2,he,h1,h2,h3,h4⟩;change e=.returned (.tuple #[.int .i64 n,.bool is,F1 E c]) at he;rcases HT5.out.went h1 h2 h3 h4 HZ.out with⟨r1,r2,r3,h5⟩|⟨r1,r2,r3,r4,h5⟩;rw[r1,r2,show F1 E 0=.nilIface from rfl] at he;subst he;have HT6:=Hz h5;have HR3:=Hz r3;have HQ4:=Hz (r1 ▸ h4);have HO6:=Hz (HO5.out.keep h2.keep HP1.out);have HM6:=Hz (HM5.out.keep h2.keep HAP.out.1);have HA6:Hid (∀ i,HL hb b S2 i→¬ML I X i):=fun i hi hm=>(by rcases h2.own i hi with q|q;exact HAP.out.1 i q hm;have:=(HM5.out.own hm).2;omega);clear h1 h2 h3 h4 h5 r1 r2 r3;rotate_left;obtain⟨ea,hea⟩:=C5d (E:=E) (c:=6) (by omega);have HEA:=Hz hea;rw[r1,r2,r3,hea] at he;subst he;have HT6:=Hz h5;have HFU:=Hz r4;have HO6:=Hz (HO5.out.keep h2.keep HP1.out);have HM6:=Hz (HM5.out.keep h2.keep HAP.out.1);have HA6:Hid (∀ i,HL hb b S2 i→¬ML I X i):=fun i hi hm=>(by rcases h2.own i hi with q|q;exact HAP.out.1 i q hm;have:=(HM5.out.own hm).2;omega);clear h1 h2 h3 h4 h5 r1 r2 r3 r4 hea;rotate_left)
        ·
         have CD7:Hid (∀ w',A0 w w'→Calls Za 28 #[.nilIface,.int .i64 6] w' fun e w''=>e=.returned (.bool false)∧A0 w' w''):=fun w' hx=>by
          have h:=B9w (HE.out.ext hx) 0 6 (by omega) (by omega) (by omega);rw[show F1 E 0=.nilIface from rfl,decide_eq_false (by omega)] at h;exact h
         go_upto_region 24 with (go_at_call 28;refine (CD7.out _ HT6.out.ext).mono ?_;rintro e w7 ⟨rfl,hq⟩;have HT7:=Hz (HT6.out.at hq);have HO7:=Hz (HO6.out.ext hq);have HM7:=Hz (HM6.out.ext hq);clear hq)
         clear HT6 HO6 HM6 CD7 b0 b1 b2 b3 b4 b5;obtain⟨b0,b1,b2,b3,b4,b5⟩:=HO7.out;by_cases lk:x.nm=⟨#[108,111,111,107]⟩
         ·have hlk:E8 x.nm=.look:=by rw[lk];rfl
          have n0:(x.nm.toList==[108,111,111,107])=true:=C7j lk;have hz:=HZ.out;have hq4:=HQ4.out;rw[hlk] at hz hq4;obtain⟨kn,rn,exa,exb,hkl,hrl⟩:=E5e hz;obtain⟨a,haP,haw,hap,hal⟩:=hT.out.wf.weak_at (by omega) hkl;have hgl:g.length=I.weak.length:=by have:=hT.out.gl;omega
          obtain⟨gg,go,hgv⟩:∃ gg go,gva=some ⟨gg,go,none⟩:=by
           rcases hT.out.gn with⟨q1,q2⟩|⟨gg,go,cap,cur,q1,_⟩
           ·have:(g.map Value.bool).length=0:=by rw[q2];rfl
            rw[List.length_map] at this;omega
           ·injection q1 with q1;exact⟨gg,go,q1⟩
          subst hgv;have hm7:=HAP.out.2 gg rfl;have hgn:=HT7.out.gn;have hxa:x.a.toNat=kn:=by rw[exa,Int.toNat_natCast]
          have hdn:∀ is,(doN I nx .look x is)=(I.setR rn (if is then I.weak.getD kn 0 else 2),nx):=fun is=>by
           show (I.setR x.b.toNat (if is then I.weak.getD x.a.toNat 0 else 2),nx)=_;rw[hxa,exb,Int.toNat_natCast]
          have hwf:=fun is=>hT.out.wf.doN (nx:=nx) (by omega) .look x HNUM.out.2.2.2 is hz
          have hmo:=fun is=>C4y (ak:=.look) (x:=x) (is:=is) hT.out.ids hT.out.n1
          have hww:=fun is=>C4z (I:=I) (nx:=nx) (x:=x) (is:=is) (ak:=.look) (fun h=>by cases h)
          have HT7':=HT7.out;rw[hlk] at HT7'
          cases is with
          | true =>
           have hkw:=hq4.lookT rfl rfl rfl;rw[hxa] at hkw;have hf:g[kn]?=some false:=by
            cases hv:g[kn]? with
            | none=>have:=List.getElem?_eq_none_iff.1 hv;omega
            | some v =>
             cases v with
             | false=>rfl
             | true=>have:=hT.out.gd kn hv;rw[this] at hkw;exact absurd hkw (by decide)
           have h1:=hwf true;have h2:=hmo true;have h3:=hww true;rw[hdn] at h1 h2 h3 HT7';have HLK:=Hz (E5j x w7 B2 g gg go gvc HM7.out hT.out.wf (by omega) hgn hgl hm7 exa exb hkl hrl haw hal hf);rw[HXM.out] at HLK;have HTL:=Hz HT7';have HJ:=Hz (And.intro h1 (And.intro h2.1 h3));have HGD:=Hz HT7'.gd;clear hlk lk hz hq4 exa exb hkl haP haw hap hal hgl hm7 hgn hxa hdn hwf hmo hww HT7' hkw hf h1 h2 h3 hrl
           go_wp2_with (go_at_call 33;refine HLK.out.mono ?_;rintro e w8 hp;obtain⟨he,h5⟩:=HTL.out.look HXM.out HM7.out HA6.out HAP.out.2 hp HJ.out.1.1 HJ.out.1.2.2 HJ.out.1.2.1 HJ.out.2.2 HJ.out.2.1 rfl HGD.out;subst he;have HT8:=Hz h5;clear hp h5)
           go_roundg r
           case measure=>omega
           case rel=>exact⟨k+1,M2,S2,_,_,g,some ⟨gg,go,none⟩,gvc,by have:=HK.out;omega,by go_num,rfl,(HT8.out.at eX).up (by omega) (by omega)⟩
          | false =>
           obtain⟨hm2,hnr⟩:=hq4.lookF rfl rfl rfl;rw[hxa] at hm2 hnr;have h1:=hwf false;have h2:=hmo false;have h3:=hww false;rw[hdn] at h1 h2 h3 HT7';have HLK:=Hz (E5h x w7 B2 g gg go gvc HM7.out hT.out.wf (by omega) (by rw[hT.out.rl];omega) hgn hgl hm7 exa exb hkl hrl hap haP (hnr a hap));rw[HXM.out] at HLK;have HTL:=Hz HT7';have HJ:=Hz (And.intro h1 (And.intro h2.1 h3));have HGD:Hid (∀ i,(g.set kn true)[i]?=some true→M2.weak.getD i 0=2):=fun i hi=>by
            by_cases q:kn=i
            ·subst q;exact (hq4.wk.2 kn (by rw[hT.out.hi.wlen];exact hkl) hm2)
            ·rw[List.getElem?_set_ne q] at hi;exact HT7'.gd i hi
           clear hlk lk hz hq4 exa exb hkl haP haw hap hal hgl hm7 hgn hxa hdn hwf hmo hww HT7' hm2 hnr h1 h2 h3 hrl
           go_wp2_with (go_at_call 33;refine HLK.out.mono ?_;rintro e w8 hp;obtain⟨he,h5⟩:=HTL.out.look HXM.out HM7.out HA6.out HAP.out.2 hp HJ.out.1.1 HJ.out.1.2.2 HJ.out.1.2.1 HJ.out.2.2 HJ.out.2.1 (by rw[List.length_set]) HGD.out;subst he;have HT8:=Hz h5;clear hp h5)
           go_roundg r
           case measure=>omega
           case rel=>exact⟨k+1,M2,S2,_,_,g.set kn true,some ⟨gg,go,none⟩,gvc,by have:=HK.out;omega,by go_num,(by rw[List.length_set]),(by rw[List.length_set];exact (HT8.out.at eX).up (by omega) (by omega))⟩
         ·have n0:(x.nm.toList==[108,111,111,107])=false:=A3v lk;have hnl:=D4x lk;have his:=HR3.out hnl;subst his;have hwf:=hT.out.wf.doN (nx:=nx) (by omega) (E8 x.nm) x HNUM.out.2.2.2 false HZ.out;have hmo:=C4y (ak:=E8 x.nm) (x:=x) (is:=false) hT.out.ids hT.out.n1;have hwl5:I.weak.length<5000:=by have:=hT.out.gl;have:=hT.out.hi.wlen;have:=hT.out.ai.weak;omega
          have HDO:=Hz (E6j x w7 HM7.out hT.out.wf (by omega) HNUM.out.2.2.2 ⟨hT.out.n1,by have:=hT.out.ai.nx;omega⟩ hT.out.ids hwl5 HAK.out hnl HZ.out);rw[HXM.out] at HDO;have HJ:=Hz (And.intro hwf hmo);by_cases wk:x.nm=⟨#[119,101,97,107]⟩
          ·have n1:(x.nm.toList==[119,101,97,107])=true:=C7j wk;have HWL:Hid ((doN I nx (E8 x.nm) x false).1.weak.length=I.weak.length+1):=by
            rw[Hid,show E8 x.nm=.weak by rw[wk];rfl];exact D8n
           clear lk hnl hwf hmo hwl5 wk
           go_upto_region 29 with (go_at_call 18;refine HDO.out.mono ?_;rintro e w8 hp;have hkp:A8 (ML I X) w7 w8:=(by obtain⟨_,X9,_,_,hkp,_⟩:=hp;exact hkp);have HO8:=Hz (HO7.out.keep hkp HP2.out);obtain⟨he,h5⟩:=HT7.out.do HXM.out HM7.out HA6.out HAP.out.2 hp HJ.out.1.1 HJ.out.1.2.2 HJ.out.1.2.1 HWL.out HJ.out.2.1 HJ.out.2.2;subst he;have HT8:=Hz h5;clear hp h5 hkp)
           obtain⟨b0,b1,b2,b3,b4,b5⟩:=HO8.out
           go_upto_region 30 with fail
           obtain⟨i0,hii,hz0,hz1,hz2⟩:=info_parts C6u;have hT9:=HT8.out.at (A0.alloc_ (A0.refl w8) (.cells #[.bool false] 4));have hgl9:g.length≤200:=by have:=hT9.gl;have:=hT.out.gl;have:=hT.out.hi.wlen;have:=hT.out.ai.weak;omega
           have htl:(g.map Value.bool).length=g.length:=by simp
           obtain⟨v9,w9,hrun9,ht9,hg9,hv9⟩:=B2k (P:=Za) (w:=w8.alloc (.cells #[.bool false] 4)) 64 64 B2 4 i0 (.bool false) 1 B8o hii hz0 hz1 hz2 rfl (.slice gva g.length gvc) (g.map .bool) hT9.gn ⟨w8.heap.size,0,none⟩ 1 (.bool false) (by simp[go_sem]) rfl (by rw[htl];unfold maxLen;omega) (by rw[htl];omega) (by obtain⟨X9,_,hm9,_⟩:=hT9.md;have:=(hm9.own (Or.inl rfl));omega);have hT10:=hT9.mark (A8.of_grown hg9 fun k q=>Or.inl q) ht9 hv9;obtain⟨va,vn,vc,hv⟩:=ht9.slice;have hvn:vn=(g++[false]).length:=by
            rw[hv] at ht9;have:=(I9.read ht9).1;simpa using this
           subst hvn;subst hv;have HT10:=Hz hT10;clear hT9 hgl9 htl ht9 hg9 hv9 hT10 hii hz0 hz1 hz2
           go_wp2_with (at_builtin;refine B5j rfl _ _ 64 rfl _ _ rfl rfl hrun9 ?_)
           go_roundg r
           case measure=>omega
           case rel=>exact⟨k+1,M2,S2,_,_,g++[false],va,vc,by have:=HK.out;omega,by go_num,(by simp),(HT10.out.at eX).up (by omega) (by omega)⟩
          ·have n1:(x.nm.toList==[119,101,97,107])=false:=A3v wk;have HWL:Hid ((doN I nx (E8 x.nm) x false).1.weak.length=I.weak.length+0):=C4z (D4y wk);clear lk hnl hwf hmo hwl5 wk
           go_upto_region 29 with (go_at_call 18;refine HDO.out.mono ?_;rintro e w8 hp;have hkp:A8 (ML I X) w7 w8:=(by obtain⟨_,X9,_,_,hkp,_⟩:=hp;exact hkp);have HO8:=Hz (HO7.out.keep hkp HP2.out);obtain⟨he,h5⟩:=HT7.out.do HXM.out HM7.out HA6.out HAP.out.2 hp HJ.out.1.1 HJ.out.1.2.2 HJ.out.1.2.1 HWL.out HJ.out.2.1 HJ.out.2.2;subst he;have HT8:=Hz h5;clear hp h5 hkp)
           obtain⟨b0,b1,b2,b3,b4,b5⟩:=HO8.out;go_wp2
           go_roundg r
           case measure=>omega
           case rel=>exact⟨k+1,M2,S2,_,_,g,gva,gvc,by have:=HK.out;omega,by go_num,rfl,(HT8.out.at eX).up (by omega) (by omega)⟩
        ·
         have CD7:Hid (∀ w',A0 w w'→Calls Za 28 #[E0 ea,.int .i64 6] w' fun e w''=>e=.returned (.bool true)∧A0 w' w''):=fun w' hx=>by
          have h:=B9w (HE.out.ext hx) 6 6 (by omega) (by omega) (by omega);rw[HEA.out,decide_eq_true rfl] at h;exact h
         go_upto_region 20 with (go_at_call 28;refine (CD7.out _ HT6.out.ext).mono ?_;rintro e w7 ⟨rfl,hq⟩;have HT7:=Hz (HT6.out.at hq);have HO7:=Hz (HO6.out.ext hq);have HM7:=Hz (HM6.out.ext hq);clear hq)
         clear HT6 HO6 HM6 CD7 HEA b0 b1 b2 b3 b4 b5;have hlb:=E4y hT.out.wf (by omega);have hnb:=E7d (B6f HZ.out).1 (B6f HZ.out).2;have hfu:=HFU.out;have HWD:Hid (∀ w',A0 w7 w'→Calls Za 31 #[.pointer (some ⟨mb,0,none⟩)] w' fun e w''=>e=.returned (.int .i64 (A1w I:Int))∧A0 w' w''):=fun w' hx=>by
          have h:=E6o w' B2 I nx X (HM7.out.ext hx) hT.out.wf (by omega) (by rw[hT.out.rl];omega);rw[HXM.out] at h;exact h
         have HND:Hid (∀ w',A0 w7 w'→Calls Za 32 #[.pointer (some ⟨mb,0,none⟩),.agg #[.string x.nm,.int .i64 x.a,.int .i64 x.b,.int .i64 x.c,.int .i64 x.n,.string x.s]] w' fun e w''=>e=.returned (.int .i64 (U5 (E8 x.nm) x))∧A0 w' w''):=fun w' hx=>E6m x _ w' HAK.out (B6f HZ.out).1 (B6f HZ.out).2
         generalize U5 (E8 x.nm) x=nd at *
         generalize A1w I=lv at *
         have f2:IntKind.i64.wrap ((lv:Int)+nd)=(lv:Int)+nd:=IntWalk.i64_in _ (by have:=hT.out.len;omega);have hd9:decide ((lv:Int)+nd≤old)=false:=decide_eq_false (by omega);obtain⟨b0,b1,b2,b3,b4,b5⟩:=HO7.out;clear hlb hnb hfu HFU;refine wp_region_held_drew (S:=fun W=>W.cell? ⟨wr.heap.size,0,none⟩=some (.string x.nm)∧W.cell? ⟨wr.heap.size,1,none⟩=some (.int .i64 x.a)∧W.cell? ⟨wr.heap.size,2,none⟩=some (.int .i64 x.b)∧W.cell? ⟨wr.heap.size,3,none⟩=some (.int .i64 x.c)∧W.cell? ⟨wr.heap.size,4,none⟩=some (.int .i64 x.n)∧W.cell? ⟨wr.heap.size,5,none⟩=some (.string x.s)) (by kernel_rfl) ?_ (fun hH=>?_)
         ·exact⟨b0,b1,b2,b3,b4,b5⟩
         refine tJ 0 99 rfl ?_
         try simp only[A5]
         refine tJ 2 101 rfl ?_
         try simp only[A5]
         refine tJ 3 102 rfl ?_
         try simp only[A5]
         refine tJ 6 105 rfl ?_
         try simp only[A5]
         refine wpAnyH_ready (rs:=[1]) (by kernel_rfl) (by simp) ?_;refine AllReadyH.cons (o:=⟨some 100,_,_,_,_,_⟩) rfl (fun K hK=>?_) AllReadyH.nil;go_simp;refine (HWD.out _ (A0.drew_ (A0.refl w7))).mono ?_;rintro e w8 ⟨rfl,hq⟩;have HY8:Hid (A0 w7 w8):=A0.trans_ (A0.drew_ (A0.refl w7)) hq;clear hq;refine hK.out _ _ ?_ (fun hH=>?_)
         ·(try dsimp only);exact HO7.out.ext HY8.out
         clear hK K
         try simp only[A5]
         refine wpAnyH_ready (rs:=[4]) (by kernel_rfl) (by simp) ?_;refine AllReadyH.cons (o:=⟨some 103,_,_,_,_,_⟩) rfl (fun K hK=>?_) AllReadyH.nil;go_simp;refine (HND.out _ HY8.out).mono ?_;rintro e w9 ⟨rfl,hq⟩;have HY9:Hid (A0 w7 w9):=HY8.out.trans_ hq;clear hq;refine hK.out _ _ ?_ (fun hH=>?_)
         ·(try dsimp only);exact HO7.out.ext HY9.out
         clear hK K
         try simp only[A5]
         refine tJ 5 104 rfl ?_
         try simp only[A5]
         refine tJ 7 106 rfl ?_
         try simp only[A5]
         refine tJ 8 107 rfl ?_
         try simp only[A5]
         refine tJ 9 108 rfl ?_
         try simp only[A5]
         refine tJ 10 109 rfl ?_
         try simp only[A5]
         refine tJ 11 110 rfl ?_
         try simp only[A5]
         refine tJ 12 111 rfl ?_
         try simp only[A5]
         refine tJ 13 112 rfl ?_
         try simp only[A5]
         refine tJ 14 113 rfl ?_
         try simp only[A5]
         refine wpAnyH_done (by kernel_rfl) ?_ _;go_wp2
         go_roundg r
         case measure=>omega
         case rel=>exact⟨k+1,M2,S2,I,nx,g,gva,gvc,by have:=HK.out;omega,by go_num,rfl,(HT7.out.at (HY9.out.trans_ eX)).up (by omega) (by omega)⟩
       ·have hgt:0<z:=by omega
        obtain⟨ea,hea⟩:=C5d (E:=E) z0;have HEA:=Hz hea;have HZ0:=Hz z0;clear hea z0
        go_upto_region 17 with (go_at_call 27;refine (C3w HT5.out.oh HT5.out.ai (HG.out.ext HT5.out.ext) ht HGB.out HT5.out.hi (by omega) (HT5.out.wf.wk (by omega)) x ⟨HNUM.out.1,HNUM.out.2.1,HNUM.out.2.2.1⟩ hk1).mono ?_;rintro e w6 ⟨c,n,is,M2,S2,I2,nx2,he,h1,h2,h3,h4⟩;change e=.returned (.tuple #[.int .i64 n,.bool is,F1 E c]) at he;obtain⟨r1,r2,r3,h5⟩:=HT5.out.refused h1 h2 h3 h4 (by rw[HZ.out];exact HZ0.out);rw[r1,r2,r3,HZ.out,HEA.out] at he;subst he;have HT6:=Hz h5;have HO6:=Hz (HO5.out.keep h2.keep HP1.out);have HM6:=Hz (HM5.out.keep h2.keep HAP.out.1);have HA6:Hid (∀ i,HL hb b S2 i→¬ML I X i):=fun i hi hm=>(by rcases h2.own i hi with q|q;exact HAP.out.1 i q hm;have:=(HM5.out.own hm).2;omega);clear h1 h2 h3 h4 h5 r1 r2 r3)
        have CD7:Hid (∀ w',A0 w w'→Calls Za 28 #[E0 ea,.int .i64 z] w' fun e w''=>e=.returned (.bool true)∧A0 w' w''):=fun w' hx=>by
         have h:=B9w (HE.out.ext hx) z z (by omega) (by omega) (by omega);rw[HEA.out,decide_eq_true rfl] at h;exact h
        go_wp2_with (go_at_call 28;refine (CD7.out _ HT6.out.ext).mono ?_;rintro e w7 ⟨rfl,hq⟩;have HT7:=Hz (HT6.out.at hq);clear hq)
        go_roundg r
        case measure=>omega
        case rel=>exact⟨k+1,M2,S2,I,nx,g,gva,gvc,by have:=HK.out;omega,by go_num,rfl,(HT7.out.at eX).up (by omega) (by omega)⟩
     | zero =>
      obtain rfl:k=l.length:=by omega
      have hltz:¬((l.length:Nat):Int)<(l.length:Int):=by omega
      obtain⟨X,hXm,hMD,hap,hgp⟩:=hT.out.md;have HMD:=Hz hMD;have HXM:=Hz hXm;obtain⟨s1,s2⟩:=hT.out.hi.show hT.out.ai.inv hT.out.wf;obtain⟨sh,hsh⟩:∃ sh,A2q I=sh:=⟨_,rfl⟩;rw[hsh] at s1;have HSH:=Hz hsh;have HS:=Hz s1;have HS2:=Hz s2;have hfew:Few Mx:=hT.out.ai.inv.few (by rw[hT.out.ai.roots];omega) (by have:=hT.out.ai.weak;omega) (by have:=hT.out.ai.ids;omega);have HFW:=Hz hfew;have HCK:Hid (chk Mx=0):=hT.out.ai.inv.chk;have HMS:Hid (∀ w',A0 wr w'→Calls Za 20 #[.pointer (some ⟨mb,0,none⟩)] w' fun e w''=>e=.returned (.string sh)∧A0 w' w''):=fun w' hx=>by
       have h:=C8s w' B2 I nx X (HMD.out.ext hx) hT.out.wf (by have:=hT.out.len;omega) (by rw[hT.out.rl];omega);rw[HXM.out,HSH.out] at h;exact h
      clear hXm hMD hap hgp s1 s2 hsh hfew hk
      go_upto_region 32 with (go_at_call 34;refine (F5v _ (hT.out.oh.mem.mem hT.out.ai.inv.ok) hT.out.oh.ptr HFW.out).mono ?_;rintro e w5 ⟨b5,S5,rfl,h1,h2⟩;have H5:=Hz h1;have X5:=Hz h2;clear h1 h2)
      go_wp2_with (first
       | (go_at_call 19;refine (C2r _ b Mx S _ ((hT.out.oh.ext X5.out).mem.mem hT.out.ai.inv.ok) (hT.out.oh.ext X5.out).ptr (L8 hT.out.ai.inv.chk).1 HFW.out (HTB.out.ext (hT.out.ext.trans_ X5.out)) HS2.out).mono ?_;rintro e w6 ⟨he,hq⟩;rw[HS.out] at he;subst he;have X6:Hid (A0 w5 w6):=hq;clear hq)
       | (go_at_call 20;refine (HMS.out _ (X5.out.trans_ X6.out)).mono ?_;rintro e w7 ⟨rfl,hq⟩;have X7:Hid (A0 w5 w7):=X6.out.trans_ hq;clear hq)
       | (go_at_call 36;refine (E5x b5 0 Mx S5 _ ((H5.out.mem hT.out.ai.inv.ok).ext X7.out) HFW.out).mono ?_;rintro e w8 ⟨B8,b8,S8,rfl,h1,h2,h3⟩;have H8:=Hz (h1.mem hT.out.ai.inv.ok);have X8:Hid (A0 w5 w8):=X7.out.trans_ h3;clear h1 h2 h3)
       | (go_at_call 35;refine (E4e b8 0 Mx S8 _ H8.out HCK.out).mono ?_;rintro e w9 ⟨he,hq⟩;rw[HCK.out] at he;subst he;have X9:Hid (A0 w5 w9):=X8.out.trans_ hq;clear hq))
      go_ret;exact⟨by simp,hT.out.ext.trans_ (X5.out.trans_ X9.out)⟩
end Go.Proofs.YtelhoppfidibiaaGreatDoor
namespace Go.Proofs.YtelhoppfidibiaaGreatDoor.HeapActs
open Go.ChangeShapes Go.WideShapes Go.ChangeAt Go.RowKit
open Go.ChangeMaps (open_string)
theorem contract (H:Type) (enc:TypeId × Value→H) (W:World) (base:Nat) (args:Array Value) (ds gs:List (DataW H)) (before:List MemPlace)
  (hval:∀ (j:Nat) t v,Tryz.f8.params[j]?=some t→args[j]?=some v→Value.okWide Za W .any base t v)
  (hW:DataW.Whole enc Za Tryz.f8.params.toList Rows.heapActsSpec.vars false W args.toList ds gs before)
  (hsz:(DataW.weightsEach Za (Tryz.f8.params.toList++(OpenSpec.ofChange Rows.heapActsSpec).bare.plain.varTypes Za) (ds++gs)).all (·≤reachBytes)=true) (hL:laidMetH Za Rows.heapActsRow.laid W) :
  Calls Za 8 args W fun e W'=>∃ v,e=.returned v∧Rows.heapActsSpec.post enc Za Tryz.f8 false true false false W args v W':=by
 have hW':=hW;obtain⟨p,q,hA0,hV,rfl,hfz,hnd⟩:=hW;have hA:DataW.TrodAll enc Za W 0 (fun _=>true) true Tryz.f8.params.toList args.toList ds p:=hA0;rw[Tryz.params8] at hA hval;obtain⟨v0,vs0,d0,ds0,p0,q0,hargs,rfl,rfl,h0,r0⟩:=trodAll_cons hA;obtain⟨v1,vs1,d1,ds1,p1,q1,rfl,rfl,rfl,h1,r1⟩:=trodAll_cons r0;obtain⟨v2,vs2,d2,ds2,p2,q2,rfl,rfl,rfl,h2,r2⟩:=trodAll_cons r1;obtain⟨v3,vs3,d3,ds3,p3,q3,rfl,rfl,rfl,h3,r3⟩:=trodAll_cons r2;obtain⟨v4,vs4,d4,ds4,p4,q4,rfl,rfl,rfl,h4,r4⟩:=trodAll_cons r3;obtain⟨v5,vs5,d5,ds5,p5,q5,rfl,rfl,rfl,h5,r5⟩:=trodAll_cons r4;obtain⟨rfl,rfl,rfl⟩:=trodAll_nil r5;obtain rfl:args=#[v0,v1,v2,v3,v4,v5]:=by cases args;simp_all
 obtain⟨rfl,rfl⟩:=trodVars_none hV;obtain⟨x0,rfl,rfl,rfl,w0⟩:=open_int Tryz.underlying3 (hval 0 3 v0 rfl rfl) h0;obtain⟨x1,rfl,rfl,rfl,w1⟩:=open_int Tryz.underlying3 (hval 1 3 v1 rfl rfl) h1;obtain⟨x2,rfl,rfl,rfl,w2⟩:=open_int Tryz.underlying3 (hval 2 3 v2 rfl rfl) h2;obtain⟨x3,rfl,rfl,rfl,w3⟩:=open_int Tryz.underlying3 (hval 3 3 v3 rfl rfl) h3;obtain⟨x4,rfl,rfl,rfl,w4⟩:=open_int Tryz.underlying3 (hval 4 3 v4 rfl rfl) h4;obtain⟨pa5,pl5,pc5,rfl⟩:=okWide_slice Tryz.underlying58 (hval 5 58 v5 rfl rfl);obtain⟨fuel5,hh5⟩:=id h5;obtain⟨a5,c5,x5,e5,hR5⟩:=F0o hh5;obtain⟨rfl,rfl,rfl⟩:=Value.slice.inj e5;obtain⟨E,hE⟩:=D9e (W:=W) (hL.filter fun x=>C7s.any (·.1==x.1));have hT:A3p W:=D2d (hL.filter fun x=>x.1 == "math/bits.deBruijn64tab"||x.1 == "internal/strconv.uint64pow10");clear hA0;refine (E2f x0 x1 x2 x3 x4 pa5 pc5 x5 W E hE hT hR5).mono fun e W' ⟨he,hg⟩=>?_
 subst he;exact⟨_,rfl,C7w rfl rfl hW' (by simp[Rows.heapActsSpec]) (by decide +kernel) hg⟩
end Go.Proofs.YtelhoppfidibiaaGreatDoor.HeapActs
namespace Go.Proofs.YtelhoppfidibiaaGreatDoor.HeapActs
open Go.ChangeShapes Go.WideShapes Go.ChangeAt Go.RowKit
theorem C1c (os:Os):laidMetH Za Rows.heapActsRow.laid ((World.doorLaid Za 200 os).forCall (fun _ _=>0) ⟨#[],#[.int .i64 0,.int .i64 0,.int .i64 0,.int .i64 0,.int .i64 0,.slice none 0 0],[]⟩).memory :=
 laidMetH_of_parts3 (fuel:=8) (laidMet_of_run' 8 (by kernel_rfl) (by kernel_rfl)) (by kernel_rfl) (by kernel_rfl)
theorem C2k (os:Os) {H:Type} (enc:TypeId × Value→H):∃ places,DataW.whole enc Za ((World.doorLaid Za 200 os).forCall (fun _ _=>0) ⟨#[],#[.int .i64 0,.int .i64 0,.int .i64 0,.int .i64 0,.int .i64 0,.slice none 0 0],[]⟩).memory Tryz.f8.params.toList Rows.heapActsSpec.vars false #[.int .i64 0,.int .i64 0,.int .i64 0,.int .i64 0,.int .i64 0,.slice none 0 0].toList 8=some ([.lit (.int .i64 0),.lit (.int .i64 0),.lit (.int .i64 0),.lit (.int .i64 0),.lit (.int .i64 0),.nil],[],places) :=
 ⟨[],by kernel_rfl⟩
theorem lifted (os:Os) (started:os.Started) (H:Type) (enc:TypeId × Value→H) (F:Stop.Interp) :
  ReturnsInHanded {} Tryz.checked os 8 .any ((OpenSpec.ofChange Rows.heapActsSpec).preRow enc Za Tryz.f8 Rows.heapActsRow.domain false Rows.heapActsRow.laid) (((OpenSpec.ofChange Rows.heapActsSpec).at F).post enc Za Tryz.f8 false true false false):=by
 obtain⟨places,hx⟩:=C2k os enc;refine returnsInHanded_of_row (C:=Tryz.checked) (s:=OpenSpec.ofChange Rows.heapActsSpec) own started (by kernel_rfl) Tryz.func8
  (witness_row_atRef (enc:=enc) (C:=Tryz.checked) false (World.doorLaid Za 200 os) #[.int .i64 0,.int .i64 0,.int .i64 0,.int .i64 0,.int .i64 0,.slice none 0 0] rfl (by kernel_rfl) (by kernel_rfl) (by kernel_rfl)
   (OpenSpec.preRow_of_cond 8 hx (by kernel_rfl) (fun k hk=>by cases hk) (by kernel_rfl) (C1c os))) ?_
 intro W base args ds gs before hval hW _ _ hsz hL _ _;exact contract H enc W base args ds gs before hval hW hsz hL
end Go.Proofs.YtelhoppfidibiaaGreatDoor.HeapActs
namespace Go.Proofs.YtelhoppfidibiaaGreatDoor.HeapActs
open Go.ChangeShapes Go.WideShapes Go.ChangeAt Go.RowKit
theorem C2o:Rows.HeapActsSaid :=
 OpenClaim.holds_of_cond 8 Tryz.f8 rfl rfl rfl rfl rfl rfl rfl ⟨rfl,rfl,rfl,rfl,rfl⟩ rfl rfl rfl rfl rfl (by kernel_rfl) Tryz.func8 closed
  (of_decide_eq_true (by kernel_rfl)) (by unfold Func.isWrapper;first|(rw[if_pos (by decide +kernel)];kernel_rfl)|(rw[if_neg (by decide +kernel)];exact⟨rfl,rfl⟩))
  (fun os started H enc _ F=>by rw[OpenClaim.pre_eq_preRow];exact lifted os started H enc F)
theorem C1j:true=Tryz.pinned.checked.prog.looks []:=by kernel_rfl
theorem plain (f:FuncId) (fn:Func) (hf:Tryz.pinned.checked.prog.funcNamed "nurserypy/nurserypylaw3.HeapActs"=some f) (hfn:Tryz.pinned.checked.prog.funcs[f]?=some fn) :
  true=Tryz.pinned.checked.prog.looks []∧∀ (j:Nat) t,fn.params[j]?=some t→Tryz.pinned.checked.prog.wantsStandIn t=false:=by
 obtain rfl:f=8:=Option.some.inj ((show Za.funcNamed "nurserypy/nurserypylaw3.HeapActs"=some 8 by kernel_rfl).symm.trans hf) |>.symm;obtain rfl:fn=Tryz.f8:=(Option.some.inj (Tryz.func8.symm.trans hfn)).symm;refine⟨C1j,fun j t ht=>?_⟩;rw[Tryz.params8] at ht;have hm:=Array.mem_of_getElem? ht;simp only[List.mem_toArray,List.mem_cons,List.not_mem_nil,or_false] at hm;rcases hm with rfl|rfl|rfl|rfl|rfl|rfl
 ·exact (show Za.wantsStandIn 3=false by kernel_rfl)
 ·exact (show Za.wantsStandIn 3=false by kernel_rfl)
 ·exact (show Za.wantsStandIn 3=false by kernel_rfl)
 ·exact (show Za.wantsStandIn 3=false by kernel_rfl)
 ·exact (show Za.wantsStandIn 3=false by kernel_rfl)
 ·exact (show Za.wantsStandIn 58=false by kernel_rfl)
theorem wfT:Rows.heapActsRow.wfByText (OpenSpec.ofChange Rows.heapActsSpec)=true:=by kernel_rfl
theorem C0l:false=Rows.heapActsRow.goesBy Tryz.pinned.checked.prog:=by kernel_rfl
theorem C1k:Tryz.pinned.checked.prog.mainIs=some (Rows.heapActsCard.stood.harness.1,Rows.heapActsCard.stood.harness.2.toList):=by kernel_rfl
theorem heapActs_holds:Rows.HeapActsCardSaid :=
 Claim7.holds_tied_plain_at .later [] _ _ _ _ C2o (fun _ h=>by cases h) wfT (fun _ h=>by cases h) heapActs_row_tie rfl ⟨rfl,rfl⟩ C1k rfl plain C0l
end Go.Proofs.YtelhoppfidibiaaGreatDoor.HeapActs
