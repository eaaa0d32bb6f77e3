/- The walk of the major collector's Collect. -/
import Derived.Test.YtelhoppfidibiaaGreatDoorJXa22
import Derived.Test.YtelhoppfidibiaaGreatDoorJXa25
set_option linter.unusedSimpArgs false
set_option linter.unusedVariables false
set_option maxHeartbeats 16000000
set_option maxRecDepth 100000
namespace Go.Proofs.YtelhoppfidibiaaGreatDoor
open Go.RowKit
open IntWalk renaming i64_in→Za
open List renaming getD_eq_getElem?_getD→Zb,getElem_mem→Zc,length_map→Zd,length_take→Ze
open Nat renaming le_refl→Zf,le_trans→Zg,zero_add→Zh
open Go.Proofs.Tryz renaming prog→Zi
open World renaming cell?_setCell_far→Zj
theorem FwV.keep {w w':World} {nb tb mb mt:Nat} {M:A7} (h:FwV w nb tb mb mt M) {L:Nat→Prop} (k:A8 L w w') (h1:¬L nb) (h2:¬L tb) (h3:¬L mb) (h4:¬L mt):FwV w' nb tb mb mt M :=
 ⟨k.cell (p:=⟨nb,0,none⟩) h1 h.n,k.cell (p:=⟨tb,0,none⟩) h2 h.t,h.num.keep k h3,h.to_.keep k h4⟩
theorem F1a {P:Program} {t e:TypeId} (ht:P.underlying t=some (.slice e)) (hz:∀ w,(sizeOf e).run P w=.ok 1 w) (g len cap l:Nat) (i:Int) (hi:i=(l:Int)) (hh:l<len) (hc:len≤cap) :
  ∃ C,∀ w':World,(Instr.slice t (.slice (some ⟨g,0,none⟩) len cap) (some (.int .i64 i)) none none).run P w'=.ok (.slice (some ⟨g,l,none⟩) (len-l) C) w':=by
 have he:P.elem t=e:=by simp[Program.elem,ht]
 have ht':P.underlying t=some (.slice (P.elem t)):=by rw[he];exact ht
 refine⟨cap-l,fun w'=>?_⟩;subst hi;rw[run_slice_l w' t (some ⟨g,0,none⟩) len cap ht' .i64 (l:Int) (by omega) (by omega),he,hz];have h0:¬cap-l=0:=by omega
 simp[Result.andThen,sliced,Addr.add,h0];rw[if_neg (by omega)]
 split
 ·rename_i h1;subst h1;rfl
 ·rfl
theorem D1g {w:World} {g:Nat} {xs:List Value} (h:F7 w (some ⟨g,0,none⟩) xs) (a m:Nat):∀ j u,((xs.drop a).take m)[j]?=some u→w.cell? ((⟨g,a,none⟩:Addr).add j)=some u:=fun j u hu=>by
 rw[List.getElem?_take] at hu
 split at hu
 ·rw[List.getElem?_drop] at hu;have:=h.at_ hu;rw[Zh] at this;rw[Addr.add_lit];exact this
 ·cases hu
theorem D3g (l:List Int) (a m:Nat):C5 ((l.drop a).take m)=((C5 l).drop a).take m:=by simp[C5,List.map_take,List.map_drop]
theorem E5q (B b:Nat) (M:A7) (S:C8) (E:Nat→Addr) (w:World) (hO:B7 w B b 140 M S) (hE:G4 E w) (hf:I7 M) (hB:B≤w.heap.size) :
  Calls Zi 46 #[.pointer (some ⟨b,0,none⟩)] w (C3o w B b S (O5 M)):=by
 have hM:=hO.mem hf.ok;obtain⟨hh,e1,e2,e4,e5,e6,e7,e8,e9,e10,e12⟩:=hf.nums;have hhalf:1≤M.half∧M.half≤65536:=by omega
 have hhb:(D1 M:Int)=2*M.half:=by omega
 have hla:∀ a∈(F5 M).map (·.a),a<1048576:=fun a ha=>by
  have:=(hf.hdM (M:=M) (a:=a) ha).2.2;omega
 have hln:((F5 M).map (·.a)).length≤1000000:=by
  have:=B8x hf.good (A7c hf.good);rw[Zd];omega
 have hroom:¬M.old<(O4 M:Int):=by have:=hf.room;omega
 have HC:Hid (F1 E (chk M)=.nilIface):=by rw[Hid,hf.chk];rfl
 have HG:=Hz hf.good;have HO:=Hz hO;have HM:=Hz hM;have HE:=Hz hE;have HF:=Hz hf;have HHB:=Hz hhb;have HLA:=Hz hla;have HLN:=Hz hln;have hbz:=hM.lt;have HROOM:=Hz hroom;have hmm:=@run_makeMap Zi;clear hO hM hE hf e1 e2 e4 e5 e6 e7 e8 e9 e10 e12 hhb hla hln
 go_enter Tryz.func46,Tryz.ntmps46
 go_upto_region 5 with (first
  | (go_at_call 90;refine (B5x b 0 M S E _ (HM.out.ext eX) (HE.out.ext eX).toG3).mono ?_;rintro e w1 ⟨he,hq⟩;rw[HC.out] at he;subst he;have HX1:Hid (A0 w w1):=A0.trans_ eX hq;have hxb:=hq.cell_ (p:=⟨w.heap.size,0,none⟩) (v:=.pointer (some ⟨b,0,none⟩)) (by simp[go_sem]);clear hq)
  | (go_at_call 53;refine (B7g b 0 M S _ (HM.out.ext HX1.out) HG.out).mono ?_;rintro e w2 ⟨ta,tc,mb,rfl,hT,hMp,hB2,hno,hq⟩;have HX2:Hid (A0 w w2):=A0.trans_ HX1.out hq;have hxb2:=hq.cell_ hxb;have HT:=Hz hT;have HMP:=Hz hMp;have HB2:=Hz hB2;have HNO:=Hz hno;clear hq hT hMp hB2 hno))
 generalize hxbq:w.heap.size=xb at *
 have HXBQ:=Hz hxbq;clear hxbq;have hxb1:xb<w1.heap.size:=B9 hxb;refine P4 (fun W3 hW3=>?_);have hX3:A0 w2 W3:=by rw[hW3];exact (A0.refl _).alloc_ _
 have y3:W3.cell? ⟨w2.heap.size,0,none⟩=some (.map (some mb)):=by rw[hW3];simp[go_sem]
 obtain⟨nb,hnb⟩:∃ nb,nb=w2.heap.size:=⟨_,rfl⟩;rw[←hnb] at y3 ⊢;have HNB:=Hz hnb;have HX23:=Hz hX3;have HX3:Hid (A0 w W3):=HX2.out.trans_ hX3;have x3:=hX3.cell_ hxb2;have o3:=(HM.out.ext HX3.out).old;simp only[Zh] at o3;clear hW3 hX3 hxb hxb2 hnb;refine wp_region_held_drew (S:=fun W=>W.cell? ⟨xb,0,none⟩=some (.pointer (some ⟨b,0,none⟩))∧W.cell? ⟨b,1,none⟩=some (.int .i64 M.old)∧W.cell? ⟨nb,0,none⟩=some (.map (some mb))) (by kernel_rfl) ?_ (fun hH=>?_)
 ·exact⟨x3,o3,y3⟩
 refine tJ 0 39 rfl ?_
 try simp only[A5]
 refine tJ 2 41 rfl ?_
 try simp only[A5]
 refine tJ 3 42 rfl ?_
 try simp only[A5]
 refine tJ 4 43 rfl ?_
 try simp only[A5]
 refine tJ 5 44 rfl ?_
 try simp only[A5]
 refine wpAnyH_ready (rs:=[1]) (by kernel_rfl) (by simp) ?_;refine AllReadyH.cons (o:=⟨some 40,_,_,_,_,_⟩) rfl (fun K hK=>?_) AllReadyH.nil;go_simp;refine (C8b b 0 M S _ ((HM.out.ext HX3.out).ext eX) HG.out).mono ?_;rintro e w4 ⟨rfl,hq⟩;have q1:=hq.cell_ hH.1;have q2:=hq.cell_ hH.2.1;have q3:=hq.cell_ hH.2.2;have HE4:=Hz hq;clear hq;refine hK.out _ _ ?_ (fun hH=>?_)
 ·(try dsimp only);exact⟨q1,q2,q3⟩
 clear hK K
 try simp only[A5]
 refine tJ 6 45 rfl ?_
 try simp only[A5]
 refine wpAnyH_done (by kernel_rfl) ?_ _;have HX4:Hid (A0 w w4):=HX3.out.trans_ (A0.trans_ eX HE4.out);have HX34:Hid (A0 W3 w4):=A0.trans_ eX HE4.out;clear hH;obtain⟨l,hl⟩:∃ l,l=(F5 M).map (·.a):=⟨_,rfl⟩;have hll:(F5 M).length=l.length:=by rw[hl,Zd]
 have hT2:I9 w2 w1.heap.size 3 (.slice ta l.length tc) (K6 (l.map fun a:Nat=>(a:Int))):=by
  have e:K6 (l.map fun a:Nat=>(a:Int))=K6 (G9 (F5 M)):=by rw[hl,List.map_map];rfl
  rw[e];have:=HT.out;rw[hll] at this;exact this
 rw[hll];have HL:=Hz hl;have HL2:Hid ((F5 M).length=l.length):=hll;have HLA2:Hid (∀ a∈l,a<1048576):=by unfold Hid;rw[hl];exact HLA.out
 have HLN2:Hid (l.length≤1000000):=by unfold Hid;rw[hl];exact HLN.out
 have HT2:=Hz hT2;have HNX:Hid ((Value.slice ta l.length tc).ownBlock≠some xb):=fun e=>by have:=(hT2.lt e).1;omega
 have HNB2:Hid ((Value.slice ta l.length tc).ownBlock≠some b):=fun e=>by have:=(hT2.lt e).1;have:=HXBQ.out;omega
 have HX24:Hid (A0 w2 w4):=HX23.out.trans_ HX34.out;have p0:=(HM.out.ext HX4.out).half;have HP0:=Hz p0;have Q1:=Hz q1;clear hl hll hT2 hroom p0 x3 o3 y3;have hroom2:¬M.old<(O4 M:Int):=by have:=HROOM.out;omega
 go_upto_region 8 with (go_at_call 99;refine (F5w b xb w1.heap.size ta tc M.half (D1 M) HHB.out hhalf l HLA2.out HLN2.out w4 Q1.out HP0.out HNX.out HNB2.out (HT2.out.ext HX24.out)).mono ?_;rintro e w5 ⟨rfl,hq1,hq2⟩;have HT5:=Hz hq1;have HK5:=Hz hq2;clear hq1 hq2)
 have hX5:A0 w w5:=A0.keep HX4.out HK5.out fun i hi=>by
  have h1:=(HT2.out.lt hi).1;have h2:=HXBQ.out;omega
 have hxb5:=HK5.out.cell (p:=⟨xb,0,none⟩) HNX.out Q1.out;have hnb5:=HK5.out.cell (p:=⟨nb,0,none⟩) (fun e=>by have h1:=(HT2.out.lt e).2;have h2:=HNB.out;simp only at h1;omega) q3;have hmap5:N8 w5 mb .i64 (mvE (A0a (G9 (F5 M)))):=(HMP.out.ext HX24.out).keep HK5.out fun e=>HNO.out (by rw[HL2.out];exact e)
 have HX5:=Hz hX5;have HXB5:=Hz hxb5;have HNB5:=Hz hnb5;have HMAP5:=Hz hmap5;clear hX5 hxb5 hnb5 hmap5 q1 q2 q3
 go_upto_region 9 with fail
 refine P4 (fun W6 hW6=>?_);obtain⟨mt,hmt⟩:∃ mt,mt=w5.heap.size:=⟨_,rfl⟩;have hX6:A0 w5 W6:=by rw[hW6];exact ((A0.refl _).alloc_ _).alloc_ _
 have hm6:N8 W6 mt .i64 []:=by rw[hW6,hmt];exact (N8.made w5 .i64).ext ((A0.refl _).alloc_ _)
 have ht6:W6.cell? ⟨mt+1,0,none⟩=some (.map (some mt)):=by rw[hW6,hmt];simp[go_sem]
 rw[←hmt] at ⊢;have HMT:=Hz hmt;have HX56:=Hz hX6;have HM6:=Hz hm6;have HT6:=Hz ht6;have x6:=hX6.cell_ HXB5.out;have p6:=(HM.out.ext (HX5.out.trans_ hX6)).half;have i9:IntKind.i64.wrap (2*M.half)=2*M.half:=Za _ (by omega);clear hW6 hmt hX6 hm6 ht6;go_wp2;have hlo:(K3 M).length=l.length:=by rw[E9g,HL2.out]
 have hT6:I9 W6 w1.heap.size 3 (.slice ta l.length tc) (K6 ((K3 M).map fun a:Nat=>(a:Int))):=by
  have h:=HT5.out.ext HX56.out;rw[HL.out] at h;have e:((F5 M).map (·.a)).mergeSort (leM (D1 M))=K3 M:=rfl;rw[e,←HL.out] at h;exact h
 have hR6:=(I9.read hT6).2;have hrow:∀ x,ta=some x→x.block≠mt:=fun x hx e=>by
  have h1:(Value.slice ta l.length tc).ownBlock=some x.block:=by
   rcases hT6 with⟨q,-⟩|⟨g,off,cap,cur,hv,-⟩
   ·injection q with q1;rw[q1] at hx;cases hx
   ·injection hv with hv1;rw[hv1] at hx ⊢;injection hx with hx;rw[←hx];rfl
  have h2:=(HT2.out.lt h1).2;have h3:=HX24.out.size;have h4:=HK5.out.size;have h5:=HMT.out;omega
 have hrowB:∀ x,ta=some x→w1.heap.size≤x.block:=fun x hx=>by
  have h1:(Value.slice ta l.length tc).ownBlock=some x.block:=by
   rcases hT6 with⟨q,-⟩|⟨g,off,cap,cur,hv,-⟩
   ·injection q with q1;rw[q1] at hx;cases hx
   ·injection hv with hv1;rw[hv1] at hx ⊢;injection hx with hx;rw[←hx];rfl
  exact (HT2.out.lt h1).1
 have HROWB:=Hz hrowB;clear hrowB;have HR6:=Hz hR6;have HROW:=Hz hrow;have HLO:=Hz hlo;have HXW6:Hid (A0 w W6):=HX5.out.trans_ HX56.out;have hmtz:w.heap.size≤mt:=by have:=HX5.out.size;have:=HMT.out;omega
 generalize hTA:ta=TA;have HTA:=Hz hTA;clear hTA hR6 hrow hlo hT6 x6 p6
 go_loopg [58,7] (l.length) (fun r i tp wr=>∃ k:Nat,k+r=l.length∧i=.int .i64 (k:Int)∧tp=.int .i64 ((V8 M k:Nat):Int)∧Hid (N8 wr mt .i64 (mvE (toE ((N5 M).take k))))∧Hid (A8 (·=mt) W6 wr))
 case atStart=>exact⟨0,by omega,rfl,by rw[show V8 M 0=D1 M from rfl,HHB.out],HM6.out,A8.refl _ _⟩
 case round =>
  obtain⟨k,hk,rfl,rfl,hMp,hK⟩:=hrel
  cases gk with
  | succ r =>
   have hlt:k<l.length:=by omega
   have hltz:(k:Int)<(l.length:Int):=by omega
   have hko:k<(K3 M).length:=by rw[HLO.out];exact hlt
   have hRr:=HR6.out.keep hK.out HROW.out;have hg1:((K3 M).map fun a:Nat=>(a:Int))[k]'(by rw[Zd];exact hko)=((K3 M)[k]:Int):=by simp
   obtain⟨tb,tp2,hTe,hc0⟩:=hRr _ _ (B5b _ k (by rw[Zd];exact hko));rw[hg1] at hc0;have hmem:((K3 M)[k],V8 M k)∈N5 M:=by rw[←B5d hko];exact Zc _
   have hdom:=B2p hmem;have hfit:=HF.out.fits _ hmem;obtain⟨hd1,hd2,hd3⟩:=HF.out.hdM hdom;have hnx:=F7n hko;have htk:(N5 M).take (k+1)=(N5 M).take k++[((K3 M)[k],V8 M k)]:=by
    rw[List.take_add_one,List.getElem?_eq_getElem (by rw[B2q];exact hko),B5d hko];rfl
   have hnot:K0 (toE ((N5 M).take k)) ((K3 M)[k]:Int)=none:=by
    rw[C2z]
    cases hq:A6h ((N5 M).take k) (K3 M)[k] with
    | none=>rfl
    | some t =>
     exfalso;have h1:=C1g hq;have h2:(K3 M)[k]∈((N5 M).take k).map (·.1):=List.mem_map_of_mem (f:=(·.1)) h1;unfold N5 at h2;rw[C3c,A7j] at h2;obtain⟨j,hj,e⟩:=List.getElem_of_mem h2;rw[List.getElem_take] at e;have hj2:j<k:=by rw[Ze] at hj;omega
     have:=(List.getElem_inj (B7w HF.out.good)).1 e;omega
   generalize (K3 M)[k]=a at *
   have hto:=hfit.to_;simp only at hto hd3;obtain rfl:TA=some ⟨tb,tp2,none⟩:=HTA.out.symm.trans hTe;have hEr:A0 w wr:=A0.keep HXW6.out hK.out fun i hi=>by subst hi;exact hmtz
   have hMr:=HM.out.ext hEr;have c3:=hMr.W;simp only[Zh] at c3;have hil:a<M.W.length:=by omega
   have hilz:(a:Int)<(M.W.length:Int):=by omega
   obtain⟨wb,wo,hWa,hcW⟩:=hMr.rW a _ (K2 M.W a hil);have hcW':wr.cell? ⟨wb,wo+a,none⟩=some (.int .u64 (A6 M.W a)):=by rw[hcW];simp[A6,Zb,hil]
   rw[hWa] at c3;have hbl:=hMr.lt;have hxm:xb≠mt:=fun e=>by have h1:=HMT.out;have h2:=B9 HXB5.out;simp only at h2;omega
   have x7:=hK.out.cell (p:=⟨xb,0,none⟩) hxm (HX56.out.cell_ HXB5.out);have t7:=hK.out.cell (p:=⟨mt+1,0,none⟩) (fun e=>by simp only at e;omega) HT6.out;have hxw:=O6 HF.out.ok a;have hszw:((A9 M.W a:Nat):Int)=B5 (A6 M.W a):=by
    have:=(Z9 (A6 M.W a) hxw.1).2.2.2.2.2.2;unfold A9;omega
   generalize A6 M.W a=xw at *
   have HXW:=Hz hxw;have HHD:=Hz hd1;have HSZW:=Hz hszw;have HNX1:=Hz hnx;have HTK:=Hz htk;have HNOT:=Hz hnot;have HK1:=Hz hk;have HER:=Hz hEr;have htb:tb<wr.heap.size:=by have:=B9 hc0;simpa using this
   clear hRr hg1 hTe hmem hdom hfit hd1 hd2 hnx htk hnot hMr hWa hcW hxw hszw hko hlt hk hEr
   go_upto_region 14 with (go_at_call 56;refine (A3d xw HXW.out.1 HXW.out.2 HHD.out _).mono ?_;rintro e w8 ⟨rfl,hq⟩;have HX8:=Hz hq;clear hq)
   refine P4 (fun W8 hW8=>?_);obtain⟨H,hH⟩:∃ H,H=w8.heap.size:=⟨_,rfl⟩;rw[←hH];have hX8:A0 wr W8:=by rw[hW8];exact HX8.out.alloc_ _
   have g3:W8.cell? ⟨H,3,none⟩=some (.int .i64 (B5 xw)):=by rw[hW8,hH];simp[go_sem]
   have t8:=hX8.cell_ t7;have hHm:H≠mt:=fun e=>by have h1:=hMp.out.lt;have h2:=HX8.out.size;omega
   obtain⟨w9,hrun9,hm9,hb9⟩:=B2l (P:=Zi) B1b A8r (hMp.out.ext hX8) (a:Int) (.int .i64 ((V8 M k:Nat):Int));rw[C1t _ _ _ HNOT.out] at hm9;have hK9:A8 (·=mt) W6 w9:=(hK.out.ext_ hX8).trans (A8.of_but hb9);have g9:=(A8.of_but hb9).cell (p:=⟨H,3,none⟩) hHm g3;have z1:0≤B5 xw∧B5 xw≤4096:=by
    have h1:=HSZW.out;have h2:=((A1v xw).1 HHD.out).2.2;have h3:B5 xw≤4096:=h2;omega
   have e1:IntKind.i64.wrap (1+B5 xw)=1+B5 xw:=Za _ (by omega);have htop:V8 M k≤1000000:=by have hwl:=A3u HF.out.shp;omega
   have e2:IntKind.i64.wrap (((V8 M k:Nat):Int)+(1+B5 xw))=((V8 M k:Nat):Int)+(1+B5 xw):=Za _ (by omega);have HM9:=Hz hm9;have HK9:=Hz hK9;have hkb:k≤1000000:=by have:=HLN2.out;have:=HK1.out;omega
   clear hW8 hH hX8 hm9 hb9 hK9 g3 hHm x7 t7 c3 hcW' hc0;go_wp2
   go_roundg r
   case measure=>omega
   case rel =>
    refine⟨k+1,by have:=HK1.out;omega,by go_num,?_,?_,HK9.out⟩
    ·have h1:=HNX1.out;have h2:=HSZW.out;congr 1;omega
    ·unfold Hid;rw[HTK.out];have e:toE ((N5 M).take k++[(a,V8 M k)])=toE ((N5 M).take k)++[((a:Int),((V8 M k:Nat):Int))]:=by simp[toE]
     rw[e];exact HM9.out
  | zero =>
   obtain rfl:k=l.length:=by omega
   have hMp2:N8 wr mt .i64 (mvE (toE (N5 M))):=by
    have h:=hMp.out;rw[List.take_of_length_le (by rw[B2q,HLO.out];exact Zf _)] at h;exact h
   have hEr:A0 w wr:=A0.keep HXW6.out hK.out fun i hi=>by subst hi;exact hmtz
   have hMr:=HM.out.ext hEr;have c3:=hMr.W;have p0:=hMr.half;simp only[Zh] at c3 p0;have hxm:xb≠mt:=fun e=>by have h1:=HMT.out;have h2:=B9 HXB5.out;simp only at h2;omega
   have x7:=hK.out.cell (p:=⟨xb,0,none⟩) hxm (HX56.out.cell_ HXB5.out);have t7:=hK.out.cell (p:=⟨mt+1,0,none⟩) (fun e=>by simp only at e;omega) HT6.out;have n7:=hK.out.cell (p:=⟨nb,0,none⟩) (fun e=>by have h1:=HMT.out;have h2:=B9 HNB5.out;simp only at h2 e;omega) (HX56.out.cell_ HNB5.out);have m7:=(HMAP5.out.ext HX56.out).keep hK.out (fun e=>by have h1:=HMT.out;have h2:=HMAP5.out.lt;omega);have hRr:=(HR6.out.keep hK.out HROW.out);have HVF:Hid (FwV wr nb (mt+1) mb mt M):=⟨n7,t7,m7,hMp2⟩;have HER:=Hz hEr;have HRR:=Hz hRr;have hcapW:=HM.out.capW;have hw2:2*M.half≤(M.W.length:Int):=by have:=HF.out.hw;have:=HHB.out;omega
   have hhn:0≤2*M.half:=by omega
   have hcp2:2*M.half≤(S.W.2:Int):=by have h:M.W.length≤S.W.2:=hcapW;omega
   have hrr:F7 wr S.W.1 (C5 (M.W.take (D1 M))):=fun j u hu=>by
    refine hMr.rW j u ?_;rw[show C5 (M.W.take (D1 M))=(C5 M.W).take (D1 M) from List.map_take] at hu;rw[List.getElem?_take] at hu
    split at hu
    ·exact hu
    ·cases hu
   have HRR2:=Hz hrr;clear hMp hMp2 hMr hK hEr hRr n7 m7 t7
   go_upto_region 19 with fail
   refine wp_region_held_drew (S:=fun W=>W.cell? ⟨xb,0,none⟩=some (.pointer (some ⟨b,0,none⟩))∧W.cell? ⟨b,3,none⟩=some (.slice S.W.1 M.W.length S.W.2)∧W.cell? ⟨b,0,none⟩=some (.int .i64 M.half)) (by kernel_rfl) ?_ (fun hH=>?_)
   ·exact⟨x7,c3,p0⟩
   refine tJ 0 83 rfl ?_
   try simp only[A5]
   refine tJ 1 84 rfl ?_
   try simp only[A5]
   refine tJ 2 85 rfl ?_
   try simp only[A5]
   refine tJ 3 86 rfl ?_
   try simp only[A5]
   refine tJ 4 87 rfl ?_
   try simp only[A5]
   refine tJ 5 88 rfl ?_
   try simp only[A5]
   refine tJ 6 89 rfl ?_
   try simp only[A5]
   refine tJ 7 90 rfl ?_
   try simp only[A5]
   refine tJ 8 91 rfl ?_
   try simp only[A5]
   refine tJ 9 92 rfl ?_
   try simp only[A5]
   refine wpAnyH_ready (rs:=[10]) (by kernel_rfl) (by simp) ?_;refine AllReadyH.cons (o:=⟨some 93,_,_,_,_,_⟩) rfl (fun K hK=>?_) AllReadyH.nil;go_simp;refine (B5y S.W.1 (D1 M) S.W.2 (C5 (M.W.take (D1 M))) _ HM.out.nilW (by have h1:M.W.length≤S.W.2:=hcapW;have h2:=HHB.out;omega) (by rw[A7l,Ze,Nat.min_eq_left HF.out.hw]) (HRR2.out.ext eX) (A6r _) (by have h2:=HHB.out;omega)).mono ?_;rintro e w7 ⟨ya,yc,rfl,hy1,hy2⟩;have q1:=hy2.cell_ hH.1;have q2:=hy2.cell_ hH.2.1;have q3:=hy2.cell_ hH.2.2;have HY:=Hz hy1;have HYX:=Hz hy2;clear hy1 hy2;refine hK.out _ _ ?_ (fun hH=>?_)
   ·(try dsimp only);exact⟨q1,q2,q3⟩
   clear hK K
   try simp only[A5]
   refine tJ 11 13 rfl ?_
   try simp only[A5]
   refine wpAnyH_done (by kernel_rfl) ?_ _;clear hH;have hX7:A0 wr w7:=(A0.trans_ eX HYX.out);have hXw7:A0 w w7:=HER.out.trans_ hX7;have hO7:=HO.out.ext hXw7;have hVF7:=HVF.out.ext hX7;have hrow7:=HRR.out.ext hX7;have HY0:Hid (w7.ownsRow w.heap.size 78 1 (.slice ya (D1 M) yc) (D1 M) (C5 (M.W.take (D1 M)))):=A2n HY.out (by have:=HER.out.size;show w.heap.size≤wr.heap.size;exact this) (A0.refl _);have HO7:=Hz hO7;have HVF7:=Hz hVF7;have HROW7:=Hz hrow7;have HXW7:=Hz hXw7;have X7:=Hz q1;have hrowA:∀ x,ta=some x→¬G1 b S x.block:=fun x hx h=>by
    have h1:=(HO.out.own_size h).2;have h2:=HROWB.out x hx;have h3:=HX1.out.size;omega
   have HROWA:=Hz hrowA;clear hrowA;clear hX7 hXw7 hO7 hVF7 hrow7 q1 q2 q3 c3 p0 x7
   go_upto_region 20 with fail
   go_loopg [96] (l.length) (fun r i wr=>∃ k:Nat,k+r=l.length∧i=.int .i64 (k:Int)∧Hid (B7 wr B b 140 {M with W:=A4e M k} S)∧Hid (A8 (G1 b S) w7 wr))
   case atStart=>exact⟨0,by omega,rfl,HO7.out,A8.refl _ _⟩
   case round =>
    obtain⟨k,hk,rfl,hOk,hK⟩:=hrel
    cases gk with
    | succ r =>
     have hlt:k<l.length:=by omega
     have hltz:(k:Int)<(l.length:Int):=by omega
     have hko:k<(K3 M).length:=by rw[HLO.out];exact hlt
     have ewk:IntKind.i64.wrap ((k:Int)+1)=((k+1:Nat):Int):=by have:=HLN2.out;rw[Za _ (by omega)];omega
     have hRr:=HROW7.out.keep hK.out HROWA.out;have hg1:((K3 M).map fun a:Nat=>(a:Int))[k]'(by rw[Zd];exact hko)=((K3 M)[k]:Int):=by simp
     obtain⟨tb,tp2,hTe,hc0⟩:=hRr _ _ (B5b _ k (by rw[Zd];exact hko));rw[hg1] at hc0;have hmem:((K3 M)[k],V8 M k)∈N5 M:=by rw[←B5d hko];exact Zc _
     have hdom:=B2p hmem;have hfit:=HF.out.fits _ hmem;obtain⟨hd1,hd2,hd3⟩:=HF.out.hdM hdom;have hsl:=HF.out.slidAt k;have hnx:=C8e hko;have hwa:=hsl.hd_ hfit;have hwk:=HF.out.words k (by omega);have hto:=C3a HF.out.good hmem;have hlw:=hsl.len;generalize (K3 M)[k]=a at *
     have hto2:=hfit.to_;simp only at hto hto2 hd3 hnx;obtain rfl:TA=some ⟨tb,tp2,none⟩:=HTA.out.symm.trans hTe;obtain⟨t,ht⟩:∃ t,t=V8 M k:=⟨_,rfl⟩;rw[←ht] at hnx hfit hmem hto hto2 hsl;obtain⟨Wk,hWk⟩:∃ Wk,Wk=A4e M k:=⟨_,rfl⟩;rw[←hWk] at hnx hsl hwa hwk hlw hOk;have hOKk:A7.Ok {M with W:=Wk}:={HF.out.ok with W:=hwk,lenW:=by show Wk.length≤_;rw[hlw];exact HF.out.ok.lenW};have hMr:=hOk.out.mem hOKk;have hil:a<Wk.length:=by omega
     obtain⟨g,hg,hgB,hgl,hgf,hgc,-⟩:=Q3 hOk.out.fW (show 0<Wk.length by omega)
     try simp only at hg hgc
     have c3:=hMr.W;simp only[Zh,hlw] at c3;rw[hg] at c3;have hcW:wr.cell? ⟨g,a,none⟩=some (.int .u64 (A6 M.W a)):=by
      have h:=hMr.rW;simp only[hg] at h;have h2:=h.at_ (K2 Wk a hil);rw[←hwa];simpa [A6,Zb,hil] using h2
     have hnA:∀ i,w.heap.size≤i→¬G1 b S i:=fun i hi e=>by have:=(HO.out.own_size e).2;omega
     have x7:=hK.out.cell (p:=⟨xb,0,none⟩) (hnA _ (by have:=HXBQ.out;simp only;omega)) X7.out;have hxr:=O6 HF.out.ok a;have hszw:((A9 M.W a:Nat):Int)=B5 (A6 M.W a):=by
      have:=(Z9 (A6 M.W a) hxr.1).2.2.2.2.2.2;unfold A9;omega
     have hilz:(a:Int)<(M.W.length:Int):=by omega
     have hVFr:=HVF7.out.keep hK.out (hnA _ (by have h1:=HNB.out;have h2:=HX2.out.size;omega)) (hnA _ (by omega)) (hnA _ (by have h1:=HB2.out;have h2:=HX1.out.size;omega)) (hnA _ (by omega));obtain⟨xw,hxw⟩:∃ xw,xw=A6 M.W a:=⟨_,rfl⟩;rw[←hxw] at hd1 hcW hxr hszw hwa;have HXW:=Hz hxw;have HWA:=Hz hwa;have HXR:=Hz hxr;have HHD:=Hz hd1;have HSZW:=Hz hszw;have HNX1:=Hz hnx;have HSL:=Hz hsl;have HFIT:=Hz hfit;have HOKK:=Hz hOKk;have HOKSH:Hid (G2 {M with W:=Wk}):={HF.out.shp with w:=by show (Wk.length:Int)=_;rw[hlw];exact HF.out.shp.w};have HMEM:=Hz hmem;have HDOM:=Hz hdom;have HLW:=Hz hlw;have HWK:=Hz hWk;have HTT:=Hz ht;have HVR:=Hz hVFr;have HGW:=Hz hg;have HK1:=Hz hk;have HTO:=Hz hto;have HNA:=Hz hnA;have HT2b:=Hz hto2;have htb:tb<wr.heap.size:=by have:=B9 hc0;simpa using this
     clear hRr hg1 hTe hmem hdom hfit hd1 hd2 hnx hMr hxw hxr hszw hko hlt hk hsl hwa hwk hto hlw ht hWk hOKk hg hVFr hnA
     go_upto_region 23 with (go_at_call 56;refine (A3d xw HXR.out.1 HXR.out.2 HHD.out _).mono ?_;rintro e w8 ⟨rfl,hq⟩;have HX8:=Hz hq;clear hq)
     refine P4 (fun W8 hW8=>?_);obtain⟨H,hH⟩:∃ H,H=w8.heap.size:=⟨_,rfl⟩;rw[←hH];have hX8:A0 wr W8:=by rw[hW8];exact HX8.out.alloc_ _
     have hHz:H<W8.heap.size:=by rw[hW8,hH];simp
     have hHg:wr.heap.size≤H:=by rw[hH];exact HX8.out.size
     have g0:W8.cell? ⟨H,0,none⟩=some (.int .i64 (B3 xw)):=by rw[hW8,hH];simp[go_sem]
     have g1:W8.cell? ⟨H,1,none⟩=some (.int .i64 (F4 xw)):=by rw[hW8,hH];simp[go_sem]
     have g2:W8.cell? ⟨H,2,none⟩=some (.int .i64 (G5 xw)):=by rw[hW8,hH];simp[go_sem]
     have g3:W8.cell? ⟨H,3,none⟩=some (.int .i64 (B5 xw)):=by rw[hW8,hH];simp[go_sem]
     have qf:W8.frozen? ⟨H,1,none⟩=false:=by rw[hW8,hH];simp[go_sem]
     have x8:=hX8.cell_ x7;have c8:=hX8.cell_ c3;obtain⟨n,hn⟩:∃ n,n=A9 M.W a:=⟨_,rfl⟩;have hnz:B5 xw=(n:Int):=by rw[hn];exact HSZW.out.symm
     have hin:=HFIT.out.inn;have hto2:=HFIT.out.to_;have hsrc:=HFIT.out.src;simp only at hin hto2 hsrc;rw[←hn] at hin hto2 hsrc;have hwl:=HF.out.ok.lenW;have hgc2:M.W.length≤S.W.2:=HM.out.capW;obtain⟨A1,C1,hs1,hA1⟩:=B4v (P:=Zi) A0c A3w g M.W.length S.W.2 a (1+n) (a:Int) ((a:Int)+1+B5 xw) rfl (by omega) (by omega);have e1:IntKind.i64.wrap ((a:Int)+1)=(a:Int)+1:=Za _ (by omega);have e2:IntKind.i64.wrap ((a:Int)+1+B5 xw)=(a:Int)+1+B5 xw:=Za _ (by omega);have HN:=Hz hn;have HX:=Hz hX8;have HHG:=Hz hHg;have hgz:g<wr.heap.size:=hgl;have HGF:=Hz hgf;clear hW8 hH hX8 hcW c3 x7 hc0 hn hgl hgf hgc hgB hHg;go_region
     go_upto_region 24 with fail
     refine P4 (fun W9 hW9=>?_);have hX9:A0 W8 W9:=by rw[hW9];exact eX
     have hXr9:A0 wr W9:=HX.out.trans_ hX9
     replace g0:=hX9.cell_ g0
     replace g1:=hX9.cell_ g1
     replace g2:=hX9.cell_ g2
     replace g3:=hX9.cell_ g3
     replace x8:=hX9.cell_ x8
     replace c8:=hX9.cell_ c8
     replace qf:W9.frozen? ⟨H,1,none⟩=false:=by rw[hX9.three.2.1 _ _ hHz];exact qf
     have hO9:B7 W9 B b 140 {M with W:=Wk} S:=OM.ext hOk.out hXr9;have hM9:=hO9.mem HOKK.out;have hV9:=HVR.out.ext hXr9;have hHz9:=B9 g0;simp only at hHz9;have HO9:=Hz hO9;have HM9:=Hz hM9;have HV9:=Hz hV9;have HXR9:=Hz hXr9;obtain⟨L,hL⟩:∃ L,L=((A8q (D1 M) (M.W.take (D1 M)) Wk a).drop a).take (1+A9 Wk a):=⟨_,rfl⟩;have hszk:A9 Wk a=n:=by rw[HN.out];exact HSL.out.sz_ HFIT.out
     have hLl:L.length=1+n:=by rw[hL,HN.out];exact HSL.out.src_len HFIT.out HF.out.hw
     have HL2:=Hz hL;have HLL:=Hz hLl;have HSZK:=Hz hszk;have HSR:Hid (¬D1 M≤a→a+1+n≤D1 M):=fun h=>by rcases hsrc with q|q<;>omega
     clear hW9 hX9 hO9 hM9 hV9 hXr9 hL hLl hszk hsrc;obtain⟨ob,hob⟩:∃ ob,ob=L4 {M with W:=Wk} (a:Int):=⟨_,rfl⟩;have HOB:=Hz hob;clear hob
     go_upto_if 125 with (go_at_call 101;refine (A1u _ _ b 0 _ S HM9.out HOKSH.out).mono ?_;rintro e w' ⟨he,hw9⟩;rw[←HOB.out] at he;subst he;have hw9:=hw9.symm;subst hw9)
     go_cut [18] from 97 to 184 (fun s18 wx=>∃ (A C:_) (p2:Addr),s18=.slice A (1+n) C∧A=some p2∧(∀ j u,(C5 L)[j]?=some u→wx.cell? (p2.add j)=some u)∧W9=wx)
     case first =>
      cases ob with
      | true =>
       have hq0:2*M.half≤(a:Int):=of_decide_eq_true HOB.out.symm;have hq:D1 M≤a:=by have:=HHB.out;omega
       go_wp2;go_meet
       case rel =>
        refine⟨some ⟨g,a,none⟩,S.W.2-a,⟨g,a,none⟩,(by first|rfl|(congr 1;omega)),rfl,fun j u hu=>?_,rfl⟩;have hr:=HM9.out.rW;simp only[HGW.out] at hr;rw[HL2.out,D3g] at hu;unfold A8q at hu;rw[if_pos hq] at hu;exact D1g hr a _ j u hu
      | false =>
       have hq0:¬2*M.half≤(a:Int):=of_decide_eq_false HOB.out.symm;have hq:¬D1 M≤a:=by have:=HHB.out;omega
       obtain⟨gy,hgy,hgyB,hgyl,-,hgyc,-⟩:=Q3 HY0.out (by omega);have hyr:=(R4 HY0.out).1;have hgyN:¬G1 b S gy:=HNA.out gy hgyB;have hsr:=HSR.out hq;subst hgy;have HYR:=Hz hyr;have HGYN:=Hz hgyN;clear hyr hgyN hgyB;go_wp2;go_meet
       case rel =>
        refine⟨some ⟨gy,a,none⟩,yc-a,⟨gy,a,none⟩,(by first|rfl|(congr 1;omega)),rfl,fun j u hu=>?_,rfl⟩;have hr:=(HYR.out.keep hK.out (fun x hx e=>by injection hx with hx;subst hx;exact HGYN.out e)).ext HXR9.out;rw[HL2.out,D3g] at hu;unfold A8q at hu;rw[if_neg hq] at hu;exact D1g hr a _ j u hu
     case rest =>
      obtain⟨A,C,p2,rfl,hA,hrd,hwc⟩:=hcut;subst hwc;subst hA;have hlook:A6h (N5 M) a=some t:=C8a (by unfold N5;rw[A7j];exact B7w HF.out.good) HMEM.out;have hlk:(Instr.lookup 103 (.map (some mt)) (.int .i64 (a:Int)) false).run Zi W9=.ok (.int .i64 (t:Int)) W9:=by
       rw[B0p HV9.out.to_ (a:Int) false,C2z,hlook];rfl
      have t9:=HV9.out.t;obtain⟨Cd,hsd⟩:=F1a (P:=Zi) A0c A3w g M.W.length S.W.2 t (t:Int) rfl (by omega) hgc2;have hwc:(C5 Wk).length=M.W.length:=by rw[A7l,Nat.mul_one];exact HLW.out
      have hrow:W9.ownsRow B 78 1 (.slice S.W.1 (C5 Wk).length S.W.2) (C5 Wk).length (C5 Wk):=by rw[hwc,←HLW.out];exact HO9.out.fW
      have hsl:(C5 L).length=1+n:=by rw[A7l,Nat.mul_one];exact HLL.out
      obtain⟨w10,hrun,hb10,ho10⟩:=B9y (P:=Zi) (W:=W9) 76 3 78 A0c A9s hrow HGW.out (some ⟨g,t,none⟩) (some p2) Cd C t (M.W.length-t) (C5 L) rfl p2 rfl hrd (A6r _) (by omega) (by omega) (by omega);rw[hsl] at hrun;have hltL:(splice Wk t L).length=Wk.length:=by rw[length_splice _ _ _ (by rw[HLL.out,HLW.out];omega)]
      have hO10:B7 w10 B b 140 {M with W:=splice Wk t L} S:=by
       refine B7.rowW (M:={M with W:=Wk}) HO9.out HGW.out hb10 _ hltL ?_;rw[B8r];rw[A7l,Nat.mul_one] at ho10;exact ho10
      have hK10:=A8.of_but hb10;have hHg:¬H=g:=by have:=HHG.out;omega
      have hxg:¬xb=g:=fun e=>HNA.out xb (by have:=HXBQ.out;omega) (e ▸ Or.inr (Or.inl HGW.out))
      have hbg:¬b=g:=fun e=>HO.out.notW HGW.out e.symm
      replace g0:=hK10.cell (p:=⟨H,0,none⟩) hHg g0
      replace g1:=hK10.cell (p:=⟨H,1,none⟩) hHg g1
      replace g2:=hK10.cell (p:=⟨H,2,none⟩) hHg g2
      replace g3:=hK10.cell (p:=⟨H,3,none⟩) hHg g3
      have x10:=hK10.cell (p:=⟨xb,0,none⟩) hxg x8;have c10:=hK10.cell (p:=⟨b,3,none⟩) hbg c8;have qf10:w10.frozen? ⟨H,1,none⟩=false:=by rw[hK10.frozen (p:=⟨H,1,none⟩) hHg hHz9];exact qf
      have HO10:=Hz hO10;have HK10:=Hz hK10;have HLTL:=Hz hltL;have HHGN:=Hz hHg;have hHz10:=B9 g0;simp only at hHz10;clear hlook hwc hrow hsl hltL hO10 hK10 hb10 ho10 hrd qf
      go_upto_region 29 with fail
      refine P4 (fun W11 hW11=>?_);have hO11:B7 W11 B b 140 {M with W:=splice Wk t L} S:=by
       refine B7.keptA HO10.out fun k _ hk=>?_
       rw[hW11];exact heap_setCell_other _ ⟨H,1,none⟩ k _ (by have h1:=HNA.out H (by have h1:=HHG.out;have h2:=HXW7.out.size;have h3:=hK.out.size;omega);intro e;have e2:k=H:=e;subst e2;exact h1 hk)
      have hK11:A8 (G1 b S) w7 W11:=by
       rw[hW11];exact ((hK.out.ext_ HXR9.out).trans (HK10.out.sub fun k hk=>by subst hk;exact Or.inr (Or.inl HGW.out))).set_ (p:=⟨H,1,none⟩) (Or.inr (Zg hK.out.size HHG.out)) _
      have v0:W11.cell? ⟨H,0,none⟩=some (.int .i64 (B3 xw)):=by rw[hW11];simp[go_sem,g0]
      have v1:W11.cell? ⟨H,1,none⟩=some (.int .i64 0):=by rw[hW11];simp[go_sem,g1]
      have v2:W11.cell? ⟨H,2,none⟩=some (.int .i64 (G5 xw)):=by rw[hW11];simp[go_sem,g2]
      have v3:W11.cell? ⟨H,3,none⟩=some (.int .i64 (B5 xw)):=by rw[hW11];simp[go_sem,g3]
      have hxH:¬xb=H:=fun e=>by have h1:=HXBQ.out;have h2:=B9 X7.out;have h3:=hK.out.size;have h4:=HHG.out;simp only at h2;omega
      have hbH:¬b=H:=fun e=>by have h2:=(HO.out.own_size (Or.inl rfl:G1 b S b)).2;have h3:=hK.out.size;have h4:=HHG.out;have h5:=HXW7.out.size;omega
      have x11:W11.cell? ⟨xb,0,none⟩=some (.pointer (some ⟨b,0,none⟩)):=by rw[hW11,Zj _ _ _ _ (by simp only;omega)];exact x10
      have c11:W11.cell? ⟨b,3,none⟩=some (.slice (some ⟨g,0,none⟩) M.W.length S.W.2):=by rw[hW11,Zj _ _ _ _ (by simp only;omega)];exact c10
      obtain⟨W4,hW4⟩:∃ W4,W4=splice Wk t L:=⟨_,rfl⟩;rw[←hW4] at hO11;have hw4l:W4.length=M.W.length:=by rw[hW4,HLTL.out];exact HLW.out
      obtain⟨g4,hg4,-,hgl4,hgf4,-⟩:=Q3 hO11.fW (show 0<W4.length by omega);obtain rfl:g4=g:=by rw[HGW.out] at hg4;injection hg4 with hg4;injection hg4 with hg4;exact hg4.symm
      have u3:W11.cell? ⟨g4,t,none⟩=some (.int .u64 (W4.getD t 0)):=by
       have:=(R4 hO11.fW).1;simp only[hg4] at this;simpa using this.at_ (K2 W4 t (by omega))
      have uf:=hgf4 t;have htl:(t:Int)<(M.W.length:Int):=by omega
      have hz0:=Z9 xw HXR.out.1;obtain⟨k0,k1,a0,a1,m0,m1,z0⟩:=hz0;have z1:B5 xw≤4096:=((A1v xw).1 HHD.out).2.2;have HO11:=Hz hO11;have HK11:=Hz hK11;have HW4:=Hz hW4;have HW4L:=Hz hw4l;have HBG:=Hz hbg;have HXG:=Hz hxg;have HNZ:=Hz hnz;have hnb:n≤4096:=by omega
      clear hnz hW11 hO11 hK11 hW4 hw4l g0 g1 g2 g3 x8 x10 c8 c10 qf10 hrun hs1 hA1 hsd hlk t9 hgf4 hg4 hHz9 hHz10 hHz hxH hbH;refine wp_region_held_drew (S:=fun W=>W.cell? ⟨xb,0,none⟩=some (.pointer (some ⟨b,0,none⟩))∧W.cell? ⟨b,3,none⟩=some (.slice (some ⟨g4,0,none⟩) M.W.length S.W.2)∧W.cell? ⟨H,0,none⟩=some (.int .i64 (B3 xw))∧W.cell? ⟨H,1,none⟩=some (.int .i64 0)∧W.cell? ⟨H,2,none⟩=some (.int .i64 (G5 xw))∧W.cell? ⟨H,3,none⟩=some (.int .i64 (B5 xw))) (by kernel_rfl) ?_ (fun hH=>?_)
      ·exact⟨x11,c11,v0,v1,v2,v3⟩
      refine tJ 0 146 rfl ?_
      try simp only[A5]
      refine tJ 1 147 rfl ?_
      try simp only[A5]
      refine tJ 2 148 rfl ?_
      try simp only[A5]
      refine tJ 3 149 rfl ?_
      try simp only[A5]
      refine tJ 4 150 rfl ?_
      try simp only[A5]
      refine tJ 5 151 rfl ?_
      try simp only[A5]
      refine wpAnyH_ready (rs:=[6]) (by kernel_rfl) (by simp) ?_;refine AllReadyH.cons (o:=⟨some 152,_,_,_,_,_⟩) rfl (fun K hK=>?_) AllReadyH.nil;go_simp;refine (B1u (B3 xw) 0 (G5 xw) (B5 xw) ⟨k0,k1⟩ ⟨by omega,by omega⟩ ⟨m0,m1⟩ ⟨z0,z1⟩ _).mono ?_;rintro e w12 ⟨rfl,hq⟩;have HX12:Hid (A0 W11 w12):=A0.trans_ (by first|exact A0.refl _|exact (A0.refl _).drew_|exact (A0.refl _).drewN_ _) hq;clear hq;have gc:=HX12.out.cell_ u3;have gf:w12.frozen? ⟨g4,t,none⟩=false:=by rw[HX12.out.three.2.1 _ _ hgl4];exact uf
      have hS5:=And.intro (HX12.out.cell_ x11) (And.intro (HX12.out.cell_ c11) (And.intro (HX12.out.cell_ v0) (And.intro (HX12.out.cell_ v1) (And.intro (HX12.out.cell_ v2) (HX12.out.cell_ v3)))));refine hK.out _ _ ?_ (fun hH=>?_)
      ·(try dsimp only);exact hS5
      clear hK K
      try simp only[A5]
      refine tJ 7 153 rfl ?_
      try simp only[A5]
      refine wpAnyH_ready (rs:=[8]) (by kernel_rfl) (by simp) ?_;refine AllReadyH.cons (o:=⟨none,_,_,_,_,_⟩) rfl (fun K hK=>?_) AllReadyH.nil;go_simp;skip;refine hK.out _ _ ?_ (fun hH=>?_)
      ·(try dsimp only);(refine⟨?_,?_,?_,?_,?_,?_⟩<;>rw[Zj _ _ _ _ (by have h1:=HBG.out;have h2:=HXG.out;have h3:=HHGN.out;simp only;omega)])
       ·exact HX12.out.cell_ x11
       ·exact HX12.out.cell_ c11
       ·exact HX12.out.cell_ v0
       ·exact HX12.out.cell_ v1
       ·exact HX12.out.cell_ v2
       ·exact HX12.out.cell_ v3
      clear hK K
      try simp only[A5]
      refine wpAnyH_done (by kernel_rfl) ?_ _;clear hH hS5 c11 x11 v1 v2;generalize hW12':w12.setCell ⟨g4,t,none⟩ (Value.int .u64 (J7 (B3 xw) 0 (G5 xw) (B5 xw)))=W12;have hW12:=hW12'.symm;clear hW12';have hag:J7 (B3 xw) 0 (G5 xw) (B5 xw)=A5g xw:=rfl;rw[hag] at hW12;have hO12:B7 W12 B b 140 {M with W:=W4.set t (A5g xw)} S:=by
       rw[hW12];exact B7.setW (M:={M with W:=W4}) (OM.ext HO11.out HX12.out) HGW.out t (by show t<W4.length;have:=HW4L.out;omega) _
      have hK12:A8 (G1 b S) w7 W12:=by
       rw[hW12];exact (HK11.out.ext_ HX12.out).set_ (p:=⟨g4,t,none⟩) (Or.inl (Or.inr (Or.inl HGW.out))) _
      have t0:W12.cell? ⟨H,0,none⟩=some (.int .i64 (B3 xw)):=by rw[hW12,Zj _ _ _ _ (by have:=HHGN.out;simp only;omega)];exact HX12.out.cell_ v0
      have t3:W12.cell? ⟨H,3,none⟩=some (.int .i64 (n:Int)):=by rw[←HNZ.out,hW12,Zj _ _ _ _ (by have:=HHGN.out;simp only;omega)];exact HX12.out.cell_ v3
      have hw5:W4.set t (A5g xw)=A3x (D1 M) (M.W.take (D1 M)) Wk a t:=by rw[HW4.out,HL2.out];unfold A3x;rw[HWA.out]
      have hn1:A4e M (k+1)=if D2 (B3 xw) then A3x (D1 M) (M.W.take (D1 M)) Wk a t else A2w (J9 M) (A3x (D1 M) (M.W.take (D1 M)) Wk a t) (t+1) n:=by
       have h:=HNX1.out;unfold A6n at h;simp only[HWA.out,HSZK.out] at h;exact h
      have hl5:(A3x (D1 M) (M.W.take (D1 M)) Wk a t).length=M.W.length:=by rw[←hw5,List.length_set];exact HW4L.out
      rw[hw5] at hO12;have hu5:∀ x∈A3x (D1 M) (M.W.take (D1 M)) Wk a t,U64 x:=C2v HOKK.out.W (fun x hx=>HF.out.ok.W x (List.mem_of_mem_take hx)) (by rw[HWA.out];exact HHD.out);have hat5:=HSL.out.wat0 HFIT.out HF.out.hw;obtain⟨W5,hW5⟩:∃ W5,W5=A3x (D1 M) (M.W.take (D1 M)) Wk a t:=⟨_,rfl⟩;rw[←hW5] at hO12 hn1 hl5 hu5 hat5;have hHN:¬G1 b S H:=HNA.out H (by have h1:=HHG.out;have h2:=HXW7.out.size;have h3:=hK.out.size;omega);have HO12:=Hz hO12;have HK12:=Hz hK12;have HN1:=Hz hn1;have HL5:=Hz hl5;have HU5:=Hz hu5;have HAT5:=Hz hat5;have HHN:=Hz hHN;have h12z:=B9 t0;simp only at h12z;clear hW12 hag hO12 hK12 hw5 hn1 hl5 hu5 hat5 hW5 v0 v3 gc gf u3 uf hHN
      cases hr:D2 (B3 xw) with
      | true =>
       have HR:=Hz hr;clear hr
       go_wp2_with (go_at_call 89;refine (A3l _ _).mono ?_;rintro e w' ⟨he,hw9⟩;rw[HR.out] at he;subst he;have hw9:=hw9.symm;subst hw9)
       go_roundg r
       case measure=>omega
       case rel =>
        refine⟨k+1,by have:=HK1.out;omega,(by first|rfl|go_num),?_,HK12.out⟩;have e:A4e M (k+1)=W5:=by rw[HN1.out,HR.out];rfl
        rw[e];exact HO12.out
      | false =>
       have HR:=Hz hr;clear hr;have e3:IntKind.i64.wrap ((t:Int)+1)=((t+1:Nat):Int):=by rw[Za _ (by omega)];omega
       have e4:IntKind.i64.wrap ((t:Int)+(n:Int))=(t:Int)+(n:Int):=Za _ (by omega)
       go_upto_region 32 with (go_at_call 89;refine (A3l _ _).mono ?_;rintro e w' ⟨he,hw9⟩;rw[HR.out] at he;subst he;have hw9:=hw9.symm;subst hw9)
       go_loopg [20] n (fun r3 i wr=>∃ j:Nat,j+r3=n∧i=.int .i64 ((t+1+j:Nat):Int)∧Hid (B7 wr B b 140 {M with W:=A2w (J9 M) W5 (t+1) j} S)∧Hid (A8 (G1 b S) W12 wr))
       case atStart=>exact⟨0,by omega,rfl,HO12.out,A8.refl _ _⟩
       case round =>
        obtain⟨j,hj,rfl,hO3,hK3⟩:=hrel;have t33:=hK3.out.cell (p:=⟨H,3,none⟩) HHN.out t3
        cases gk with
        | succ r3 =>
         have hlt3:j<n:=by omega
         have hle:(((t+1+j:Nat):Int)≤(t:Int)+(n:Int)):=by omega
         obtain⟨q,hq⟩:∃ q,q=t+1+j:=⟨_,rfl⟩;have hsn:=C5u (J9 M) j W5 (t+1);have hl3:=C0f (J9 M) j W5 (t+1);have hu3:=C0g (fun u hu=>B3y M hu) j W5 (t+1) HU5.out;have hw3:A6 (A2w (J9 M) W5 (t+1) j) (t+1+j)=A6 M.W (a+1+j):=by
          rw[C3h _ _ _ _ _ (by rw[HL5.out];omega),if_neg (by omega),HAT5.out,if_neg (by omega),if_pos (by rw[←HN.out];omega)];congr 1;omega
         obtain⟨W3,hW3⟩:∃ W3,W3=A2w (J9 M) W5 (t+1) j:=⟨_,rfl⟩;rw[←hW3] at hO3 hsn hl3 hu3 hw3;rw[←hq] at hsn hw3 hle ⊢;have hfi:=HF.out.fld_in (a:=a) HDOM.out (by rw[←HXW.out];exact HR.out) (k:=j) (by rw[←HN.out];exact hlt3);have hur:=O6 HF.out.ok (a+1+j);have hfl:=hfi.1;generalize A6 M.W (a+1+j)=u at *
         rw[hw3] at hsn;have hok3:A7.Ok {M with W:=W3}:={HF.out.ok with W:=hu3,lenW:=by show W3.length≤_;rw[hl3,HL5.out];exact HF.out.ok.lenW};have hl3':W3.length=M.W.length:=by rw[hl3,HL5.out]
         have hM3:=hO3.out.mem hok3;have c33:=hM3.W;simp only[Zh,hl3'] at c33;rw[HGW.out] at c33;have hql:q<W3.length:=by omega
         have hqz:(q:Int)<(M.W.length:Int):=by omega
         have gq:wr.cell? ⟨g4,q,none⟩=some (.int .u64 u):=by
          have h:=hM3.rW;simp only[HGW.out] at h;have h2:=h.at_ (K2 W3 q hql);rw[←hw3];simpa [A6,Zb,hql] using h2
         obtain⟨g5,hg5,-,hgl5,hgf5,-⟩:=Q3 hO3.out.fW (show 0<W3.length by omega);obtain rfl:g5=g4:=by rw[HGW.out] at hg5;injection hg5 with hg5;injection hg5 with hg5;exact hg5.symm
         have uf:=hgf5 q;have hK73:=HK12.out.trans hK3.out;have x33:=hK73.cell (p:=⟨xb,0,none⟩) (HNA.out _ (by have:=HXBQ.out;simp only;omega)) X7.out;have hV3:=HVF7.out.keep hK73 (HNA.out _ (by have h1:=HNB.out;have h2:=HX2.out.size;omega)) (HNA.out _ (by omega)) (HNA.out _ (by have h1:=HB2.out;have h2:=HX1.out.size;omega)) (HNA.out _ (by omega));have e5:IntKind.i64.wrap ((q:Int)+1)=((q+1:Nat):Int):=by rw[Za _ (by omega)];omega
         have HO3:=hO3;have HK3:=hK3;have HSN:=Hz hsn;have HV3:=Hz hV3;have HUR:=Hz hur;have HFL:=Hz hfl;have HQ:=Hz hq;have HQL:=Hz hql;have HJ:=Hz hj;clear hO3 hK3 hsn hl3 hu3 hw3 hW3 hfi hur hfl hok3 hM3 hg5 hgf5 hK73 hV3 hq hql hj hlt3 e3 t0
         go_upto_region 34 with fail
         refine wp_region_held_drew (S:=fun W=>W.cell? ⟨xb,0,none⟩=some (.pointer (some ⟨b,0,none⟩))∧W.cell? ⟨b,3,none⟩=some (.slice (some ⟨g5,0,none⟩) M.W.length S.W.2)) (by kernel_rfl) ?_ (fun hH=>?_)
         ·exact⟨x33,c33⟩
         refine tJ 0 168 rfl ?_
         try simp only[A5]
         refine tJ 1 169 rfl ?_
         try simp only[A5]
         refine tJ 2 170 rfl ?_
         try simp only[A5]
         refine tJ 3 171 rfl ?_
         try simp only[A5]
         refine tJ 4 172 rfl ?_
         try simp only[A5]
         refine tJ 5 173 rfl ?_
         try simp only[A5]
         refine tJ 6 174 rfl ?_
         try simp only[A5]
         refine tJ 7 175 rfl ?_
         try simp only[A5]
         refine tJ 8 176 rfl ?_
         try simp only[A5]
         refine tJ 9 177 rfl ?_
         try simp only[A5]
         refine tJ 10 178 rfl ?_
         try simp only[A5]
         refine tJ 11 179 rfl ?_
         try simp only[A5]
         refine wpAnyH_ready (rs:=[12]) (by kernel_rfl) (by simp) ?_;refine AllReadyH.cons (o:=⟨some 180,_,_,_,_,_⟩) rfl (fun K hK=>?_) AllReadyH.nil;go_simp;skip;refine hK.out _ _ ?_ (fun hH=>?_)
         ·(try dsimp only);exact⟨x33,c33⟩
         clear hK K
         try simp only[A5]
         refine wpAnyH_ready (rs:=[13]) (by kernel_rfl) (by simp) ?_;refine AllReadyH.cons (o:=⟨some 181,_,_,_,_,_⟩) rfl (fun K hK=>?_) AllReadyH.nil;go_simp;refine (B3z M HF.out.good u HUR.out.1 HUR.out.2 HFL.out nb (mt+1) mb mt _ (HV3.out.ext eX)).mono ?_;rintro e w13 ⟨rfl,hq⟩;have HX13:Hid (A0 wr w13):=A0.trans_ eX hq;clear hq;have gc:=HX13.out.cell_ gq;have gf:w13.frozen? ⟨g5,q,none⟩=false:=by rw[HX13.out.three.2.1 _ _ hgl5];exact uf
         have hS13:=And.intro (HX13.out.cell_ x33) (HX13.out.cell_ c33);refine hK.out _ _ ?_ (fun hH=>?_)
         ·(try dsimp only);exact hS13
         clear hK K
         try simp only[A5]
         refine tJ 14 167 rfl ?_
         try simp only[A5]
         refine tJ 15 182 rfl ?_
         try simp only[A5]
         refine tJ 16 183 rfl ?_
         try simp only[A5]
         refine tJ 17 184 rfl ?_
         try simp only[A5]
         refine wpAnyH_ready (rs:=[18]) (by kernel_rfl) (by simp) ?_;refine AllReadyH.cons (o:=⟨none,_,_,_,_,_⟩) rfl (fun K hK=>?_) AllReadyH.nil;go_simp;skip;refine hK.out _ _ ?_ (fun hH=>?_)
         ·(try dsimp only);(refine⟨?_,?_⟩<;>rw[Zj _ _ _ _ (by have h1:=HBG.out;have h2:=HXG.out;simp only;omega)])
          ·exact HX13.out.cell_ x33
          ·exact HX13.out.cell_ c33
         clear hK K
         try simp only[A5]
         refine wpAnyH_done (by kernel_rfl) ?_ _;clear hH hS13 c33 x33;generalize hW14':w13.setCell ⟨g5,q,none⟩ (Value.int .u64 (Q0 M u).1)=W14;have hW14:=hW14'.symm;clear hW14';have hO14:B7 W14 B b 140 {M with W:=W3.set q (Q0 M u).1} S:=by
          rw[hW14];exact B7.setW (M:={M with W:=W3}) (OM.ext HO3.out HX13.out) HGW.out q HQL.out _
         have hK14:A8 (G1 b S) W12 W14:=by
          rw[hW14];exact (HK3.out.ext_ HX13.out).set_ (p:=⟨g5,q,none⟩) (Or.inl (Or.inr (Or.inl HGW.out))) _
         have HO14:=Hz hO14;have HK14:=Hz hK14;clear hW14 hO14 hK14 gc gf uf gq;go_wp2
         go_roundg r3
         case measure=>omega
         case rel =>
          refine⟨j+1,by have:=HJ.out;omega,by rw[HQ.out];rfl,?_,HK14.out⟩;rw[HSN.out];exact HO14
        | zero =>
         obtain rfl:j=n:=by omega
         have hle:¬(((t+1+j:Nat):Int)≤(t:Int)+(j:Int)):=by omega
         go_wp2
         go_roundg r
         case measure=>omega
         case rel =>
          refine⟨k+1,by have:=HK1.out;omega,(by first|rfl|go_num),?_,HK12.out.trans hK3.out⟩;have e:A4e M (k+1)=A2w (J9 M) W5 (t+1) j:=by rw[HN1.out,HR.out];rfl
          rw[e];exact hO3
    | zero =>
     obtain rfl:k=l.length:=by omega
     have hltz:¬((l.length:Nat):Int)<(l.length:Int):=by omega
     have hOW:B7 wr B b 140 {M with W:=O9 M} S:=by
      have h:=hOk.out;have e:A4e M l.length=O9 M:=by rw[←HLO.out];exact C8d M
      rw[e] at h;exact h
     have hnA:∀ i,w.heap.size≤i→¬G1 b S i:=fun i hi e=>by have:=(HO.out.own_size e).2;omega
     have hokW:A7.Ok {M with W:=O9 M}:={HF.out.ok with W:=HF.out.wordsE,lenW:=by show (O9 M).length≤_;rw[HF.out.slid.len];exact HF.out.ok.lenW};have hMW:=hOW.mem hokW;have y7:=hMW.roots;have y8:=hMW.weak;simp only[Zh] at y7 y8;have x7:=hK.out.cell (p:=⟨xb,0,none⟩) (hnA _ (by have:=HXBQ.out;simp only;omega)) X7.out;have hVr:=HVF7.out.keep hK.out (hnA _ (by have h1:=HNB.out;have h2:=HX2.out.size;omega)) (hnA _ (by omega)) (hnA _ (by have h1:=HB2.out;have h2:=HX1.out.size;omega)) (hnA _ (by omega));obtain⟨sr,hsr⟩:∃ sr,S.R.1=sr:=⟨_,rfl⟩;obtain⟨sk,hsk⟩:∃ sk,S.K.1=sk:=⟨_,rfl⟩;rw[hsr] at y7;rw[hsk] at y8;have HSR:=Hz hsr;have HSK:=Hz hsk;have HNA:=Hz hnA;have HOW:=Hz hOW;have HK7:=Hz hK.out;have HVr:=Hz hVr;have hbw:=OM.lt hOW;have HBW:Hid (w.heap.size≤wr.heap.size):=Zg HXW7.out.size hK.out.size;clear hsr hsk hnA hOW hVr hMW hokW hOk hK hk
     go_upto_region 36 with fail
     go_region
     go_upto_region 37 with fail
     refine P4 (fun W20 hW20=>?_);obtain⟨bs,hbs⟩:∃ bs,bs=wr.heap.size:=⟨_,rfl⟩;have hX20:A0 wr W20:=by rw[hW20];exact eX
     have s0:W20.cell? ⟨bs,0,none⟩=some (.slice sr M.roots.length S.R.2):=by rw[hW20,hbs];simp[go_sem]
     have s1:W20.cell? ⟨bs,1,none⟩=some (.slice sk M.weak.length S.K.2):=by rw[hW20,hbs];simp[go_sem]
     have x20:=hX20.cell_ x7;have hV20:=HVr.out.ext hX20;have hO20:B7 W20 B b 140 (B2b M 0) S:=OM.ext HOW.out hX20;have hnv:¬G1 b S nb∧¬G1 b S (mt+1)∧¬G1 b S mb∧¬G1 b S mt:=⟨HNA.out _ (by have h1:=HNB.out;have h2:=HX2.out.size;omega),HNA.out _ (by omega),HNA.out _ (by have h1:=HB2.out;have h2:=HX1.out.size;omega),HNA.out _ (by omega)⟩;have hbsN:¬G1 b S bs:=HNA.out _ (by have:=HBW.out;omega);have HX20:=Hz hX20;have HV20:=Hz hV20;have HO20:=Hz hO20;have HNV:=Hz hnv;have HBSN:=Hz hbsN;have S0:=Hz s0;have S1:=Hz s1;have X20:=Hz x20;have HXBN:Hid (¬G1 b S xb):=HNA.out _ (by have:=HXBQ.out;omega)
     (try rw[←hbs])
     clear hW20 hX20 hV20 hO20 hnv hbsN x7 y7 y8 s0 s1 x20 hbs
     go_loopg [196] 2 (fun r i wr=>∃ k:Nat,k+r=2∧i=.int .i64 (k:Int)∧Hid (B7 wr B b 140 (B2b M k) S)∧Hid (A8 (G1 b S) W20 wr))
     case atStart=>exact⟨0,by omega,rfl,HO20.out,A8.refl _ _⟩
     case round =>
      obtain⟨k,hk,rfl,hO4,hK4⟩:=hrel;have s0:=hK4.out.cell (p:=⟨bs,0,none⟩) HBSN.out S0.out;have s1:=hK4.out.cell (p:=⟨bs,1,none⟩) HBSN.out S1.out;rcases (show k=0∨k=1∨k=2 by omega) with rfl|rfl|rfl
      ·obtain rfl:gk=1+1:=by omega
       clear s1 hk;have hu4:∀ j,j<M.roots.length→(0≤M.roots.getD j 0∧M.roots.getD j 0≤18446744073709551615)∧D0 (C6 M) (M.roots.getD j 0)=true:=fun j hj=>⟨Y1 HF.out.ok.roots hj,A4d (K5 HF.out.good).2.2.1 hj⟩
       have HU4:=Hz hu4;clear hu4;go_wp2
       go_loopg [202] (M.roots.length) (fun r5 i wr=>∃ j:Nat,j+r5=M.roots.length∧i=.int .i64 (j:Int)∧Hid (B7 wr B b 140 {M with W:=O9 M,roots:=V9 (J9 M) M.roots j} S)∧Hid (A8 (G1 b S) W20 wr))
       case atStart=>exact⟨0,by omega,rfl,by rw[D2t];exact hO4.out,hK4.out⟩
       case round =>
        obtain⟨j,hj,rfl,hO5,hK5⟩:=hrel
        cases gk with
        | succ r5 =>
         have hlt5:j<M.roots.length:=by omega
         have hltz5:(j:Int)<(M.roots.length:Int):=by omega
         have hlq:(V9 (J9 M) M.roots j).length=M.roots.length:=D2r _ _ _;obtain⟨g5,hg5,-,hgl5,hgf5,-⟩:=Q3 (B7.fR hO5.out) (show 0<(V9 (J9 M) M.roots j).length by omega)
         try simp only at hg5
         have gq:wr.cell? ⟨g5,j,none⟩=some (.int .u64 (M.roots.getD j 0)):=by
          have h:=(R4 (B7.fR hO5.out)).1;simp only[hg5] at h;have h2:=h.at_ (K2 (V9 (J9 M) M.roots j) j (by omega));rw[D2q _ _ _ hlt5] at h2;simpa using h2
         have uf:=hgf5 j;have hjb:M.roots.length≤9223372036854775807:=HF.out.ok.lenR;have ew:IntKind.i64.wrap ((j:Int)+1)=((j+1:Nat):Int):=by rw[Za _ (by omega)];omega
         have hset:=D2s (J9 M) M.roots j hlt5;have hfl:=HU4.out j hlt5;generalize M.roots.getD j 0=u at *
         have hV5:=HV20.out.keep hK5.out HNV.out.1 HNV.out.2.1 HNV.out.2.2.1 HNV.out.2.2.2;have HV5:=Hz hV5;have HFL:=Hz hfl;have HSET:=Hz hset;have HG5:=Hz hg5;have HJ:=Hz hj;have HLT5:=Hz hlt5;have HLQ:=Hz hlq;obtain rfl:sr=some ⟨g5,0,none⟩:=HSR.out.symm.trans hg5;clear hV5 hfl hset hg5 hj hlt5 hlq hgf5
         go_wp2_with (go_at_call 102;refine (B3z M HF.out.good u HFL.out.1.1 HFL.out.1.2 HFL.out.2 nb (mt+1) mb mt _ HV5.out).mono ?_;rintro e w9 ⟨rfl,hq⟩;have hc9:=hq.cell_ gq;have hf9:w9.frozen? ⟨g5,j,none⟩=false:=(by rw[hq.three.2.1 _ _ hgl5];exact uf);have HQ:=Hz hq;clear hq)
         have hO9:B7 (w9.setCell ⟨g5,j,none⟩ (.int .u64 (Q0 M u).1)) B b 140 {M with W:=O9 M,roots:=V9 (J9 M) M.roots (j+1)} S:=by
          have h:=B7.setR (OM.ext hO5.out HQ.out) HG5.out j (by show j<(V9 (J9 M) M.roots j).length;rw[HLQ.out];exact HLT5.out) (Q0 M u).1;have e:(V9 (J9 M) M.roots j).set j (Q0 M u).1=V9 (J9 M) M.roots (j+1):=HSET.out;rw[←e];exact h
         have HO9:=Hz hO9;clear hO9
         go_roundg r5
         case measure=>omega
         case rel =>
          refine⟨j+1,by have:=HJ.out;omega,(by first|rfl|go_num),HO9.out,?_⟩;exact (hK5.out.ext_ HQ.out).set_ (p:=⟨g5,j,none⟩) (Or.inl (Or.inr (Or.inr (Or.inl HG5.out)))) _
        | zero =>
         obtain rfl:j=M.roots.length:=by omega
         have hltz5:¬((M.roots.length:Nat):Int)<(M.roots.length:Int):=by omega
         have hO6:Hid (B7 wr B b 140 {M with W:=O9 M,roots:=M.roots.map (J9 M)} S):=by
          have h:=hO5.out;rw[D2p] at h;exact h
         clear hO5;go_wp2
         go_roundg 1
         case measure=>omega
         case rel=>exact⟨1,by omega,(by first|rfl|go_num|simp),hO6,hK5⟩
      ·obtain rfl:gk=0+1:=by omega
       clear s0 hk;have hu4:∀ j,j<M.weak.length→(0≤M.weak.getD j 0∧M.weak.getD j 0≤18446744073709551615)∧D0 (C6 M) (M.weak.getD j 0)=true:=fun j hj=>⟨Y1 HF.out.ok.weak hj,A4d (K5 HF.out.good).2.2.2.1 hj⟩
       have HU4:=Hz hu4;clear hu4;go_wp2
       go_loopg [202] (M.weak.length) (fun r5 i wr=>∃ j:Nat,j+r5=M.weak.length∧i=.int .i64 (j:Int)∧Hid (B7 wr B b 140 {M with W:=O9 M,roots:=M.roots.map (J9 M),weak:=V9 (J9 M) M.weak j} S)∧Hid (A8 (G1 b S) W20 wr))
       case atStart=>exact⟨0,by omega,rfl,by rw[D2t];exact hO4.out,hK4.out⟩
       case round =>
        obtain⟨j,hj,rfl,hO5,hK5⟩:=hrel
        cases gk with
        | succ r5 =>
         have hlt5:j<M.weak.length:=by omega
         have hltz5:(j:Int)<(M.weak.length:Int):=by omega
         have hlq:(V9 (J9 M) M.weak j).length=M.weak.length:=D2r _ _ _;obtain⟨g5,hg5,-,hgl5,hgf5,-⟩:=Q3 (B7.fK hO5.out) (show 0<(V9 (J9 M) M.weak j).length by omega)
         try simp only at hg5
         have gq:wr.cell? ⟨g5,j,none⟩=some (.int .u64 (M.weak.getD j 0)):=by
          have h:=(R4 (B7.fK hO5.out)).1;simp only[hg5] at h;have h2:=h.at_ (K2 (V9 (J9 M) M.weak j) j (by omega));rw[D2q _ _ _ hlt5] at h2;simpa using h2
         have uf:=hgf5 j;have hjb:M.weak.length≤9223372036854775807:=HF.out.ok.lenK;have ew:IntKind.i64.wrap ((j:Int)+1)=((j+1:Nat):Int):=by rw[Za _ (by omega)];omega
         have hset:=D2s (J9 M) M.weak j hlt5;have hfl:=HU4.out j hlt5;generalize M.weak.getD j 0=u at *
         have hV5:=HV20.out.keep hK5.out HNV.out.1 HNV.out.2.1 HNV.out.2.2.1 HNV.out.2.2.2;have HV5:=Hz hV5;have HFL:=Hz hfl;have HSET:=Hz hset;have HG5:=Hz hg5;have HJ:=Hz hj;have HLT5:=Hz hlt5;have HLQ:=Hz hlq;obtain rfl:sk=some ⟨g5,0,none⟩:=HSK.out.symm.trans hg5;clear hV5 hfl hset hg5 hj hlt5 hlq hgf5
         go_wp2_with (go_at_call 102;refine (B3z M HF.out.good u HFL.out.1.1 HFL.out.1.2 HFL.out.2 nb (mt+1) mb mt _ HV5.out).mono ?_;rintro e w9 ⟨rfl,hq⟩;have hc9:=hq.cell_ gq;have hf9:w9.frozen? ⟨g5,j,none⟩=false:=(by rw[hq.three.2.1 _ _ hgl5];exact uf);have HQ:=Hz hq;clear hq)
         have hO9:B7 (w9.setCell ⟨g5,j,none⟩ (.int .u64 (Q0 M u).1)) B b 140 {M with W:=O9 M,roots:=M.roots.map (J9 M),weak:=V9 (J9 M) M.weak (j+1)} S:=by
          have h:=B7.setK (OM.ext hO5.out HQ.out) HG5.out j (by show j<(V9 (J9 M) M.weak j).length;rw[HLQ.out];exact HLT5.out) (Q0 M u).1;have e:(V9 (J9 M) M.weak j).set j (Q0 M u).1=V9 (J9 M) M.weak (j+1):=HSET.out;rw[←e];exact h
         have HO9:=Hz hO9;clear hO9
         go_roundg r5
         case measure=>omega
         case rel =>
          refine⟨j+1,by have:=HJ.out;omega,(by first|rfl|go_num),HO9.out,?_⟩;exact (hK5.out.ext_ HQ.out).set_ (p:=⟨g5,j,none⟩) (Or.inl (Or.inr (Or.inr (Or.inr (Or.inl HG5.out))))) _
        | zero =>
         obtain rfl:j=M.weak.length:=by omega
         have hltz5:¬((M.weak.length:Nat):Int)<(M.weak.length:Int):=by omega
         have hO6:Hid (B7 wr B b 140 {M with W:=O9 M,roots:=M.roots.map (J9 M),weak:=M.weak.map (J9 M)} S):=by
          have h:=hO5.out;rw[D2p] at h;exact h
         clear hO5;go_wp2
         go_roundg 0
         case measure=>omega
         case rel=>exact⟨2,by omega,(by first|rfl|go_num|simp),hO6,hK5⟩
      ·obtain rfl:gk=0:=by omega
       clear s0 s1 hk;obtain⟨wD,rfl⟩:∃ x,x=wr:=⟨wr,rfl⟩;have hM6:=hO4.out.mem HF.out.okR;have y9:=hM6.ids;simp only[Zh] at y9;have y9i:wD.cell? ⟨b,9,none⟩=some (.slice S.I.1 M.ids.length S.I.2):=y9;have hri:F7 wD S.I.1 (G0 M.ids):=hM6.rI;have x6:=hK4.out.cell (p:=⟨xb,0,none⟩) HXBN.out X20.out;have hVD:=HV20.out.keep hK4.out HNV.out.1 HNV.out.2.1 HNV.out.2.2.1 HNV.out.2.2.2;have hidz:M.ids.length≤196608:=C6q HF.out.good;obtain⟨i0,hi0,hz0,hz1,hz2⟩:=info_parts B6z;obtain⟨si,hsi⟩:∃ si,S.I.1=si:=⟨_,rfl⟩;rw[hsi] at y9i hri;have HRI:=Hz hri;have HVD:=Hz hVD;have HIB:Hid (∀ x∈M.ids,(0≤x.1∧x.1≤18446744073709551615)∧D0 (C6 M) x.1=true):=fun x hx=>⟨(HF.out.ok.ids x hx).1,by
        obtain⟨q1,q2,q3,q4⟩:=HF.out.ids_in x hx;unfold D0;rw[if_pos q1,q3];simp⟩
       clear hM6 y9 hri hVD hsi;go_wp2;clear y9i x6
       go_loopg [224,24] (M.ids.length) (fun r i s wr=>∃ (k:Nat) (acc:List (Int × Int)) (a:Option Addr) (c:Nat),k+r=M.ids.length∧i=.int .i64 (k:Int)∧s=.slice a acc.length c∧Hid (acc=A8h M (M.ids.take k))∧Hid (wr.ownsRow wD.heap.size 140 2 (.slice a acc.length c) acc.length (G0 acc))∧Hid (A0 wD wr))
       case atStart=>exact⟨0,[],none,0,by omega,rfl,rfl,rfl,World.ownsRow_nil _ _ _ _,A0.refl _⟩
       case round =>
        obtain⟨k,acc,a,c,hk,rfl,rfl,hAc,hOw,hE⟩:=hrel
        cases gk with
        | succ r =>
         have hlt:k<M.ids.length:=by omega
         have hltz:(k:Int)<(M.ids.length:Int):=by omega
         obtain⟨p0,p1⟩:=A6u M.ids k hlt;have hRw:=HRI.out.ext hE.out;obtain⟨ib,io,rfl,hc0⟩:=hRw _ _ p0;have hc1:=hRw.at_ p1;rw[←Nat.add_assoc] at hc1;have hx:=HIB.out _ (Zc hlt);have hsn:=E3a M M.ids k hlt;have hal:acc.length≤k:=by
          rw[hAc.out];exact Zg (E2z _ _) (by rw[Ze];omega)
         rw[←hAc.out] at hsn;generalize M.ids[k]=x at *
         have hsz:=hE.out.size;have HX:=Hz hx;have HSN:=Hz hsn;have HK2:=Hz hk;have HAL:=Hz hal;clear p0 p1 hRw hx hsn hk hal hlt
         cases hok:(Q0 M x.1).2 with
         | true =>
          have HOT:=Hz hok;rw[hok] at HSN;clear hok
          go_wp2_with (first
           | (go_at_call 102;refine (B3z M HF.out.good x.1 HX.out.1.1 HX.out.1.2 HX.out.2 nb (mt+1) mb mt _ (HVD.out.ext (hE.out.alloc_ _))).mono ?_;rintro e w9 ⟨he,hq⟩;rw[HOT.out] at he;subst he;have hsz9:=hq.size;have q91:=hq.cell_ (show (wr.alloc (.cells #[.int .u64 x.1,.int .i64 x.2] 140)).cell? ⟨wr.heap.size,1,none⟩=some (.int .i64 x.2) by simp[go_sem]);have HQ:=Hz hq;clear hq)
           | (at_builtin;go_loud (refine A5e rfl _ _ 80 rfl wD.heap.size 140 i0 (.agg #[.int .u64 0,.int .i64 0]) 2 16 B1a hi0 hz0 hz1 hz2 rfl (by decide) _ acc.length (G0 acc) rfl (A2n hOw.out (Zf _) ((((A0.refl wr).alloc_ _).trans_ HQ.out).alloc_ _)) (some ⟨_,0,none⟩) 1 1 [.int .u64 (Q0 M x.1).1,.int .i64 x.2] rfl (fun h=>by cases h) (Zf _) rfl ?c1 ?c2 ?c3 ?c4 ?c5 ?_)))
          case c1=>exact B8c (heap_alloc_new _ _)
          case c2=>intro u hu;simp at hu;rcases hu with rfl|rfl<;>rfl
          case c3=>have:=HAL.out;have:=HK2.out;unfold maxLen;omega
          case c4=>have:=HAL.out;have:=HK2.out;omega
          case c5=>simp at hsz9 ⊢;omega
          intro a' c' w12 hown hgrow hat';have hE12:A0 wD w12:=Below.grown (((hE.out.alloc_ _).trans_ HQ.out).alloc_ _) hgrow (by simp at hsz9 ⊢;omega) (fun j hj=>(hOw.out.lt j hj).1);have HOWI:=Hz hown;have HE12:=Hz hE12;clear hown hgrow hat' hE12;go_wp2
          go_roundg r
          case measure=>omega
          case rel =>
           refine⟨k+1,acc++[((Q0 M x.1).1,x.2)],a',c',(by have:=HK2.out;omega),(by go_num),(by simp),HSN.out.symm,?_,HE12⟩;show World.ownsRow _ _ _ _ _ _ _;rw[C6o,List.length_append];exact HOWI.out
         | false =>
          have HOT:=Hz hok;rw[hok] at HSN;clear hok
          go_wp2_with (go_at_call 102;refine (B3z M HF.out.good x.1 HX.out.1.1 HX.out.1.2 HX.out.2 nb (mt+1) mb mt _ (HVD.out.ext (hE.out.alloc_ _))).mono ?_;rintro e w9 ⟨he,hq⟩;rw[HOT.out] at he;subst he;have HQ:=Hz hq;clear hq)
          go_roundg r
          case measure=>omega
          case rel=>exact⟨k+1,acc,a,c,(by have:=HK2.out;omega),(by go_num),rfl,HSN.out.symm,A2n hOw.out (Zf _) (((A0.refl wr).alloc_ _).trans_ HQ.out),hE.out.trans_ (((A0.refl wr).alloc_ _).trans_ HQ.out)⟩
        | zero =>
         obtain rfl:k=M.ids.length:=by omega
         have hltz:¬((M.ids.length:Nat):Int)<(M.ids.length:Int):=by omega
         have hAc':acc=A8h M M.ids:=by have:=hAc.out;rw[List.take_length] at this;exact this
         subst hAc';have hOE:B7 wr B b 140 (B2b M 2) S:=OM.ext hO4.out hE.out;have hME:=hOE.mem HF.out.okR;have d0:=hME.half;have y5:=hME.top;have y6:=hME.oldTop;have y9:=hME.ids;simp only[Zh] at d0 y5 y6 y9;have d0h:wr.cell? ⟨b,0,none⟩=some (.int .i64 M.half):=d0;have y5h:wr.cell? ⟨b,5,none⟩=some (.int .i64 M.top):=y5;have y6h:wr.cell? ⟨b,6,none⟩=some (.int .i64 M.oldTop):=y6;have z5:=OM.frozen hOE 5;have z6:=OM.frozen hOE 6;have z9:=OM.frozen hOE 9;have hbwE:=OM.lt hOE;have x6:=hE.out.cell_ (hK4.out.cell (p:=⟨xb,0,none⟩) HXBN.out X20.out);have hxbb:xb≠b:=fun e=>HXBN.out (e ▸ Or.inl rfl)
         have htp:((V8 M l.length:Nat):Int)-2*M.half=(O4 M:Int):=by
          have h1:=F7m M;have h2:=HF.out.endE;rw[HLO.out] at h1;have h3:=HHB.out;omega
         have hlv:(O4 M:Int)≤M.old:=HF.out.room;have hold:=HF.out.shp.o2;have e1:IntKind.i64.wrap (2*M.half)=2*M.half:=Za _ (by omega);have e2:IntKind.i64.wrap (((V8 M l.length:Nat):Int)-2*M.half)=(O4 M:Int):=by rw[htp];exact Za _ (by omega)
         have hOwB:=hOw.out;have hend:=E5n hOE a c (A8h M M.ids) (A2n hOwB (by have h1:=OM.lt hO4.out;have h2:=(hO4.out).hb;omega) (A0.refl _)) (fun k hk hkA=>by
          have h1:=(hOwB.lt k hk).1;have h2:=(hO4.out.own_size hkA).2;omega) (O4 M)
         have HEND:=Hz hend;have HOWB:=Hz hOwB;have X6:=Hz x6;clear hOE hME d0 y5 y6 hend hOwB hAc htp hlv hold hk;go_wp2;go_region
         go_upto_region 54 with fail
         refine P4 (fun W21 hW21=>?_);have hO21:B7 W21 B b 140 {B2b M 2 with ids:=A8h M M.ids,top:=0,oldTop:=(O4 M:Int)} {S with I:=(a,c)}:=by
          rw[hW21];exact OM.ext HEND.out ((A0.refl _).drew_)
         have hK21:A8 (G1 b S) wr W21:=by
          rw[hW21];exact (E5o _ _ _).drew_
         have hcl:=D6o HF.out.shp;obtain⟨gc,hgc,-,hgcl,-,hgcc,cur,hcur,hcurl,-⟩:=Q3 hO21.fC hcl.1
         try simp only at hgc
         have y10:W21.cell? ⟨b,10,none⟩=some (.slice S.C.1 M.cards.length S.C.2):=(hO21.fld ⟨10,4,1,S.C.1,M.cards.length,S.C.2,R7 M.cards⟩ (by simp[F3,B2b])).1;rw[hgc] at y10;obtain⟨w22,hrun22,hw22,hb22⟩:=D1h (P:=Zi) 64 4 (.bool false) B8o B8z rfl rfl gc M.cards.length S.C.2 cur hcl.1 hcur (by rw[hcurl];exact Zg hgcc (by omega));have hO22:=B7.clearC hO21 hgc hcur rfl hb22 hw22;have x21:=hK21.cell (p:=⟨xb,0,none⟩) HXBN.out X6.out;have hK22:A8 (G1 b S) w w22:=(((((A8.of_ext HXW7.out).trans HK7.out).ext_ HX20.out).trans hK4.out).ext_ hE.out).trans (hK21.trans ((A8.of_but hb22).sub fun k hk=>by subst hk;exact Or.inr (Or.inr (Or.inr (Or.inr (Or.inr hgc))))));have HO22:=Hz hO22;have HK22:=Hz hK22;clear hW21 hO21 hK21 hcl hgcc hcur hcurl hw22 hb22 hO22 hK22 hgcl hgc;go_wp2;go_ret;refine⟨rfl,{S with I:=(a,c)},HO22.out,HK22.out,fun k hk=>?_⟩;rcases hk with hk|hk|hk|hk|hk|hk
         ·exact Or.inl (Or.inl hk)
         ·exact Or.inl (Or.inr (Or.inl hk))
         ·exact Or.inl (Or.inr (Or.inr (Or.inl hk)))
         ·exact Or.inl (Or.inr (Or.inr (Or.inr (Or.inl hk))))
         ·right;have hk':a=some ⟨k,0,none⟩:=hk;have h1:=(HOWB.out.lt k (by rw[hk'];rfl)).1;have h2:=hK4.out.size;have h3:=HX20.out.size;have h4:=HBW.out;omega
         ·exact Or.inl (Or.inr (Or.inr (Or.inr (Or.inr (Or.inr hk)))))
end Go.Proofs.YtelhoppfidibiaaGreatDoor
