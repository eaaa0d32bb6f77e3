/- The walks of heap's Look and Snapshot, of mem's Live. -/
import Derived.Test.YtelhoppfidibiaaGreatDoorJXa32
set_option linter.unusedSimpArgs false
set_option linter.unusedVariables false
set_option maxHeartbeats 4000000
set_option maxRecDepth 100000
namespace Go.Proofs.YtelhoppfidibiaaGreatDoor
open Go.RowKit
open Int renaming toNat_natCast→Za
open List renaming getD_eq_getElem?_getD→Zb,getElem?_set_self→Zc,length_set→Zd,mem_map→Ze
open Nat renaming zero_add→Zf
open Go.Proofs.Tryz renaming prog→Zg
section
variable {B hb b:Nat} {M:A7} {S:C8} {E:Nat→Addr} {ten nx:Int}
def A6v (M:A7) (k r:Int):Int:=if (decide (0≤k)&&decide (k<(M.weak.length:Int)))&&rootB M r then 0 else 5
theorem E5g (w:World) (hH:E7 w B hb b M S ten nx) (hI:D6 M nx) (hE:G4 E w) (k r:Int) (hr0:-9223372036854775808≤r∧r≤9223372036854775807) (hc:A6v M k r≠0) :
  Calls Zg 71 #[.pointer (some ⟨hb,0,none⟩),.int .i64 k,.int .i64 r] w fun e w'=>e=.returned (.tuple #[.bool false,F1 E 5])∧A0 w w':=by
 have HH:=Hz hH;have HI:=Hz hI;have HE:=Hz hE;have q0:=hH.ptr;have c8:=(hH.mem.mem hI.ok).weak;simp only[Zf] at c8;have h3:k<0∨(¬k<0∧(M.weak.length:Int)≤k)∨(¬k<0∧¬(M.weak.length:Int)≤k∧rootB M r=false):=by
  by_cases a:k<0
  ·exact Or.inl a
  ·by_cases c:(M.weak.length:Int)≤k
   ·exact Or.inr (Or.inl ⟨a,c⟩)
   ·refine Or.inr (Or.inr ⟨a,c,?_⟩)
    cases hR:rootB M r with
    | false=>rfl
    | true=>exact absurd (by unfold A6v;rw[hR,decide_eq_true (by omega),decide_eq_true (by omega)];rfl) hc
 clear hH hI hE hc;rcases h3 with a|⟨a,c⟩|⟨a,c,hR⟩
 ·have k3:=HE.out.place;clear q0 c8
  go_enter Tryz.func71,Tryz.ntmps71
  go_upto_region 2 with fail
  go_region;go_wp2
  go_ret2
  exact⟨rfl,(A0.refl _).drew_⟩
 ·have k3:=HE.out.place
  go_enter Tryz.func71,Tryz.ntmps71
  go_upto_region 2 with fail
  go_region;go_wp2
  go_ret2
  exact⟨rfl,(A0.refl _).drew_⟩
 ·have HR:=Hz hR;clear hR
  go_enter Tryz.func71,Tryz.ntmps71
  go_upto_region 2 with (go_at_call 40;refine (A2o _ (HH.out.ext ((A0.refl w).alloc_ _)) HI.out.ok w.heap.size r hr0.1 hr0.2 (by rw[World.cell?,heap_alloc_new];rfl)).mono ?_;rintro e w1 ⟨he,hq⟩;rw[HR.out] at he;subst he;have HX1:Hid (A0 w w1):=((A0.refl w).alloc_ _).trans_ hq;clear hq)
  have k3:=(HE.out.ext HX1.out).place;go_region;go_wp2
  go_ret2
  exact⟨rfl,HX1.out.drew_⟩
theorem E5i (w:World) (hH:E7 w B hb b M S ten nx) (hI:D6 M nx) (hE:G4 E w) (k r:Int) (hr0:-9223372036854775808≤r∧r≤9223372036854775807) (hc:A6v M k r=0) :
  Calls Zg 71 #[.pointer (some ⟨hb,0,none⟩),.int .i64 k,.int .i64 r] w (R8 w B hb b S ten (Z1 M r.toNat (M.weak.getD k.toNat 0)) nx (.tuple #[.bool (C7 (M.weak.getD k.toNat 0)==0),F1 E 0])):=by
 have HH:=Hz hH;have HI:=Hz hI;have HE:=Hz hE;have h2:(0≤k∧k<(M.weak.length:Int))∧rootB M r=true:=by
  unfold A6v at hc
  split at hc
  ·rename_i h;simp only[Bool.and_eq_true,decide_eq_true_eq] at h;exact h
  ·cases hc
 obtain⟨⟨k0,k1⟩,hR⟩:=h2;obtain⟨r0,r1⟩:=Y2.1 hR;obtain⟨kn,rfl⟩:∃ kn:Nat,k=(kn:Int):=⟨k.toNat,by omega⟩;obtain⟨rn,rfl⟩:∃ rn:Nat,r=(rn:Int):=⟨r.toNat,by omega⟩;simp only[Za];have hkl:kn<M.weak.length:=by omega
 have hrl:rn<M.roots.length:=by omega
 have a:¬(kn:Int)<0:=by omega
 have c:¬(M.weak.length:Int)≤(kn:Int):=by omega
 have HR:=Hz hR;have q0:=hH.ptr;have c8:=(hH.mem.mem hI.ok).weak;simp only[Zf] at c8;have hub:0≤M.weak.getD kn 0∧M.weak.getD kn 0≤18446744073709551615:=Y1 (P:=fun x=>0≤x∧x≤18446744073709551615) hI.ok.weak hkl;have h0:F1 E 0=.nilIface:=rfl;rw[h0];obtain⟨u,hu⟩:∃ u,u=M.weak.getD kn 0:=⟨_,rfl⟩;rw[←hu] at hub ⊢;have HU:=Hz hu;have hC8:=Hz c8;clear hH hI hE hc hR hu h0 r0 r1 k0 k1
 go_enter Tryz.func71,Tryz.ntmps71
 go_upto_region 3 with (go_at_call 40;refine (A2o _ (HH.out.ext ((A0.refl w).alloc_ _)) HI.out.ok w.heap.size (rn:Int) hr0.1 hr0.2 (by rw[World.cell?,heap_alloc_new];rfl)).mono ?_;rintro e w1 ⟨he,hq⟩;rw[HR.out] at he;subst he;have HX1:Hid (A0 w w1):=((A0.refl w).alloc_ _).trans_ hq;clear hq)
 have hH1:=HH.out.ext HX1.out;have q1:=hH1.ptr;obtain⟨g,hg,-,-,hgf,-,-⟩:=Q3 (B7.fR hH1.mem) (by omega);have hfg:=hgf rn;have hM1:=hH1.mem.mem HI.out.ok;have c7:=hM1.roots;have d8:=hM1.weak;simp only[Zf] at c7 d8;obtain⟨kb,ko,hKa,hcK⟩:=hM1.rK kn _ (K2 M.weak kn hkl);rw[←HU.out] at hcK;rw[hKa] at d8;have hrow:=hM1.rR;rw[hg] at hrow c7;have hcel2:=hrow.at_ (K2 M.roots rn hrl);simp only[Zf] at hcel2;have hkz:(kn:Int)<(M.weak.length:Int):=by omega
 have hrz:(rn:Int)<(M.roots.length:Int):=by omega
 have HG:=Hz hg;have HRL:=Hz hrl;generalize M.roots.getD rn 0=yy at *
 clear q0 c8 hH1 hgf hg hrow hM1 hKa
 go_wp2_with (go_at_call 103;refine (O8 _ hub.1 hub.2 _).mono ?_;rintro e w9 ⟨rfl,hw9⟩;have hw9:=hw9.symm;subst hw9)
 go_ret2
 obtain⟨z1,z2⟩:=(HH.out.ext HX1.out).step (B7.setR (HH.out.ext HX1.out).mem HG.out rn HRL.out u) (A8.set_ (L:=G1 b S) (A8.refl _ _) (p:=⟨g,rn,none⟩) (Or.inl (Or.inr (Or.inr (Or.inl HG.out)))) _) (fun _ q=>Or.inl q);exact⟨rfl,S,z1,(D7.of_ext HX1.out).trans_ z2⟩
theorem F5v (w:World) (hM:G8 w b 0 M S) (hp:w.cell? ⟨hb,0,none⟩=some (.pointer (some ⟨b,0,none⟩))) (hF:Few M) :
  Calls Zg 34 #[.pointer (some ⟨hb,0,none⟩)] w (C3p w M):=by
 have HC:=Hz (D8k b M S w hM hF);clear hM hF
 go_enter Tryz.func34,Tryz.ntmps34
 go_wp2_with (go_at_call 76;refine HC.out.mono ?_;rintro e w1 ⟨b2,S2,rfl,h1,h2⟩;have H1:=Hz h1;have H2:=Hz h2;clear h1 h2)
 go_ret;exact⟨b2,S2,rfl,H1.out,H2.out⟩
end
section
variable {M:A7} {ten nx:Int}
theorem B9k {N:A7} {lN lO:List Nat} (hg:L7 N lN lO) {a:Nat} (ha:a∈lN++lO):D0 (stL lN lO) (D3 (a:Int))=true:=by
 have hs:=hg.shp;obtain⟨h1,h2,h3,h4,h5,h6,h7,h8,h9,h10,h11,h12,h13,h14⟩:=hs;have hin:=hg.inW ha;unfold D0;have hk:C7 (D3 (a:Int))=0:=(A5v _).2.2;rw[if_pos hk,B2g _ (by omega),Bool.or_eq_true];exact Or.inr (D1v.2 ha)
theorem E5t (ht:0≤ten∧ten≤15) (h:D6 M nx) (kind:Int) (sz:Nat) (hk:0≤kind∧kind≤255) (hz:sz≤4096) (hc:J0 M ten sz=0) (r:Nat) :
  D6 (Z1 (J1 M ten kind sz) r (D3 (U1 M ten sz))) nx∧Q8 M (Z1 (J1 M ten kind sz) r (D3 (U1 M ten sz))):=by
 obtain⟨i1,i2,i3⟩:=A4z ht h kind sz hk hz;obtain⟨a,ha,hN⟩:=i3 hc;obtain⟨lN,lO,hg,hm⟩:=hN.good;rw[ha];obtain⟨k1,k2⟩:=A7e i1 hg r (D3 (a:Int)) ⟨(A5v _).1,(A5v _).2.1⟩ (B9k hg hm);exact⟨k1,i2.trans k2⟩
theorem B8a (h:D6 M nx) {s:Nat} (hs:s<M.roots.length):0≤M.roots.getD s 0∧M.roots.getD s 0≤18446744073709551615:=Y1 (P:=fun x=>0≤x∧x≤18446744073709551615) h.ok.roots hs
theorem D8j (h:D6 M nx) (r s:Nat) (hs:s<M.roots.length):D6 (Z1 M r (M.roots.getD s 0)) nx∧Q8 M (Z1 M r (M.roots.getD s 0)):=by
 obtain⟨lN,lO,hg⟩:=A4r h.chk;exact A7e h hg r _ (B8a h hs) (Y1 hg.roots hs)
theorem E9y (h:D6 M nx) {r f s:Int} (hc:fieldC M r f s=0):D6 (J3 M (A2e M r f) (M.roots.getD s.toNat 0)) nx∧Q8 M (J3 M (A2e M r f) (M.roots.getD s.toNat 0)):=by
 have hgM:=(L8 h.chk).1;obtain⟨rn,sn,fn,x,h1,h2,h3,hrl,hsl,hx,hpl,hraw,hfn,hP⟩:=B6j hgM hc;have hsn:s.toNat=sn:=by omega
 rw[hP,hsn];have hv:=B8a h hsl;have hk:=F6i h.ok h.chk hx fn hfn _ (A4d (K5 hgM).2.2.1 hsl);obtain⟨e1,e2,e3,e4,e5,e6,e7,e8,e9⟩:=B0y M (x.a+1+fn) (M.roots.getD sn 0);exact⟨⟨D1z h.ok _ _ hv.1 hv.2,hk,h.nx1,by rw[e9];exact h.ids⟩,⟨e1,e2,e3,by rw[e7],by rw[e8],by rw[e9];exact Nat.le_refl _⟩⟩
theorem F8q (h:D6 M nx) {s:Nat} (hs:s<M.roots.length) (hl:M.weak.length≤1000000):D6 {M with weak:=M.weak++[M.roots.getD s 0]} nx:=by
 obtain⟨lN,lO,hg⟩:=A4r h.chk;exact F8n h hg _ (B8a h hs) (Y1 hg.roots hs) hl
end
def B4.setR (I:B4) (r:Nat) (u:Int):B4:={I with roots:=I.roots.set r u}
def B4.put (I:B4) (i:Nat) (u:Int):B4:={I with V:=I.V.set i u}
theorem A5a {n:Nat} (h:n≤1000000000):B6 (D3 (n:Int))=(n:Int)∧C7 (D3 (n:Int))=0∧D3 (n:Int)≠0:=by
 have e:D3 (n:Int)=(n:Int)*4+4:=by unfold D3;omega
 have k:C7 (D3 (n:Int))=0:=by rw[e];unfold C7;omega
 refine⟨?_,k,by rw[e];omega⟩;unfold B6;rw[if_pos ⟨k,by rw[e];omega,by rw[e];omega⟩,e];unfold C9;omega
theorem B9z {f:Nat→Nat} {D:Nat→Prop} {a:Nat} (h:D a) (h1:a≤1000000000) (h2:f a≤1000000000):Q6 f D (D3 (a:Int)) (D3 (f a:Int)):=by
 obtain⟨a1,a2,a3⟩:=A5a h1;obtain⟨b1,b2,b3⟩:=A5a h2;exact Or.inr ⟨a,a1,h,b1,a2,a3,b2,b3⟩
section
variable {I:B4} {M:A7} {D:Nat→Prop} {f:Nat→Nat} {ten nx:Int}
theorem K7.setR (h:K7 I M D f) (r:Nat) {u v:Int} (hc:Q6 f D u v):K7 (I.setR r u) (Z1 M r v) D f:=by
 refine⟨h.morph,h.dom,h.apart,h.obj,by show (I.roots.set r u).length=(M.roots.set r v).length;rw[Zd,Zd];exact h.lenR,fun i hi=>?_,h.lenK,h.weak,h.ids1,h.ids2,h.wkV,h.idV,h.nodes⟩;have hi':i<I.roots.length:=by have:i<(I.roots.set r u).length:=hi;rwa [Zd] at this
 have hi2:i<M.roots.length:=by rw[←h.lenR];exact hi'
 show Q6 f D ((I.roots.set r u).getD i 0) ((M.roots.set r v).getD i 0);by_cases e:r=i
 ·subst e;simp only[Zb,Zc hi',Zc hi2,Option.getD_some];exact hc
 ·simp only[Zb,List.getElem?_set_ne e];have:=h.roots i hi';simpa only[Zb] using this
theorem Holds.copy (h:Holds I M) (r:Nat) {s:Nat} (hs:s<I.roots.length):Holds (I.setR r (I.roots.getD s 0)) (Z1 M r (M.roots.getD s 0)):=by
 obtain⟨D,f,h⟩:=h;exact⟨D,f,h.setR r (h.roots s hs)⟩
theorem Holds.plain (h:Holds I M) (r:Nat) {u:Int} (hu:B6 u<0):Holds (I.setR r u) (Z1 M r u):=by
 obtain⟨D,f,h⟩:=h;exact⟨D,f,h.setR r (Or.inl ⟨hu,rfl⟩)⟩
theorem K7.small (h:K7 I M D f) (hg:goodB M=true) {a:Nat} (ha:D a):f a≤1000000000:=by
 obtain⟨x,hx,e⟩:=Ze.1 (h.obj a ha);have:=(A2z (K5 hg).1 hx).1;have:=A3u (K5 hg).1;omega
theorem Holds.make (ht:0≤ten∧ten≤15) (h:Holds I M) (hI:D6 M nx) (kind:Int) (sz:Nat) (hk:0≤kind∧kind≤255) (hz:sz≤4096) (hc:J0 M ten sz=0) (r:Nat) (hl:I.V.length≤1000000000) :
  Holds ((I.new kind (List.replicate sz (L0 kind))).setR r (D3 (I.V.length:Int))) (Z1 (J1 M ten kind sz) r (D3 (U1 M ten sz))):=by
 obtain⟨D,f,hR,e⟩:=h.obj ht hI kind sz hk hz hc;have hg:=(L8 (A4z ht hI kind sz hk hz).1.chk).1;rw[e];exact⟨_,f,hR.setR r (B9z (Or.inr rfl) hl (hR.small hg (Or.inr rfl)))⟩
structure B5r (I:B4) (r a:Nat) (k:Nat):Prop where
 lt:r<I.roots.length
 pts:B6 (I.roots.getD r 0)=(a:Int)
 raw:D2 (B3 (A6 I.V a))=false
 k:k<A9 I.V a
theorem K7.field (h:K7 I M D f) {r a k s:Nat} (hr:B5r I r a k) (hs:s<I.roots.length):D a∧fieldC M (r:Int) (k:Int) (s:Int)=0∧A2e M (r:Int) (k:Int)=f a+1+k:=by
 rcases h.roots r hr.lt with⟨q,-⟩|⟨b,c1,c2,c3,c4,c5,c6,c7⟩
 ·have:=hr.pts;omega
 ·have hp:=hr.pts;obtain rfl:b=a:=by omega
  have hpl:=(B0w c3).2.2;have e1:(C9 (M.roots.getD r 0)).toNat=f b:=by rw[hpl];omega
  refine⟨c2,?_,?_⟩
  ·unfold fieldC;rw[Y2.2 ⟨by omega,by rw[←h.lenR];have:=hr.lt;omega⟩,Y2.2 ⟨by omega,by rw[←h.lenR];omega⟩];simp only[Bool.and_self,if_true,Za];have e2:A1k (M.roots.getD r 0)=true:=by unfold A1k;rw[c6];simpa using c7
   have e3:D2 (B3 (A6 M.W (C9 (M.roots.getD r 0)).toNat))=false:=by rw[e1,h.morph.kind b c2];exact hr.raw
   have e4:0≤(k:Int)∧(k:Int)<B5 (A6 M.W (C9 (M.roots.getD r 0)).toNat):=by
    have hk:=hr.k;unfold A9 at hk;rw[e1,h.morph.size b c2];omega
   rw[if_pos (by rw[e2,e3];rfl),if_pos e4]
  ·unfold A2e;simp only[Za];rw[e1]
theorem Holds.get (h:Holds I M) {r a k s:Nat} (hr:B5r I r a k) (hs:s<I.roots.length) :
  fieldC M (r:Int) (k:Int) (s:Int)=0∧Holds (I.setR s (A6 I.V (a+1+k))) (Z1 M s (A6 M.W (A2e M (r:Int) (k:Int)))):=by
 obtain⟨D,f,h⟩:=h;obtain⟨h1,h2,h3⟩:=h.field hr hs;rw[h3];exact⟨h2,D,f,h.setR s (h.morph.fld a h1 hr.raw k hr.k)⟩
theorem Holds.put (h:Holds I M) (hI:D6 M nx) {r a k s:Nat} (hr:B5r I r a k) (hs:s<I.roots.length) :
  fieldC M (r:Int) (k:Int) (s:Int)=0∧Holds (I.put (a+1+k) (I.roots.getD s 0)) (J3 M (A2e M (r:Int) (k:Int)) (M.roots.getD s 0)):=by
 obtain⟨D,f,h⟩:=h;obtain⟨h1,h2,h3⟩:=h.field hr hs;refine⟨h2,D,f,?_⟩;rw[h3];have hg:=(L8 hI.chk).1;obtain⟨g1,g2,g3,g4,g5,g6⟩:=K5 hg;obtain⟨lN,lO,hG⟩:=A4r hI.chk;have hall:(D8 M).map (·.a)=lN++lO:=by
  rw[hG.all,List.map_map];exact (List.map_congr_left fun x _=>rfl).trans (List.map_id _)
 have hob:∀ a,D a→f a∈lN++lO:=fun a ha=>by rw[←hall];exact h.obj a ha
 have hsz:∀ a,D a→A9 M.W (f a)=A9 I.V a:=fun a ha=>by unfold A9;rw[h.morph.size a ha]
 have hk:=hr.k;have hjM:f a+1+k<M.W.length:=by have:=hG.inW (hob a h1);rw[hsz a h1] at this;omega
 have hjI:a+1+k<I.V.length:=by have:=h.dom a h1;omega
 have hWe:(J3 M (f a+1+k) (M.roots.getD s 0)).W=M.W.set (f a+1+k) (M.roots.getD s 0):=by unfold J3;split<;>rfl
 obtain⟨e1,e2,e3,e4,e5,e6,e7,e8,e9⟩:=B0y M (f a+1+k) (M.roots.getD s 0);have oM:∀ i,i≠f a+1+k→A6 (J3 M (f a+1+k) (M.roots.getD s 0)).W i=A6 M.W i:=fun i hi=>by rw[hWe];exact A2r _ _ _ _ hi
 have oI:∀ i,i≠a+1+k→A6 (I.put (a+1+k) (I.roots.getD s 0)).V i=A6 I.V i:=fun i hi=>A2r _ _ _ _ hi
 have nM:A6 (J3 M (f a+1+k) (M.roots.getD s 0)).W (f a+1+k)=M.roots.getD s 0:=by rw[hWe];exact A6q _ _ _ hjM
 have nI:A6 (I.put (a+1+k) (I.roots.getD s 0)).V (a+1+k)=I.roots.getD s 0:=A6q _ _ _ hjI;have apI:∀ b,D b→b≠a→∀ i,b≤i→i<b+1+A9 I.V b→i≠a+1+k:=fun b hb hn i i1 i2=>by
  rcases Nat.lt_or_gt_of_ne hn with q|q
  ·have:=h.apart b a hb h1 q;omega
  ·have:=h.apart a b h1 hb q;omega
 have apM:∀ b,D b→b≠a→∀ i,f b≤i→i<f b+1+A9 I.V b→i≠f a+1+k:=fun b hb hn i i1 i2=>by
  have hn2:f b≠f a:=fun e=>hn (h.morph.inj b a hb h1 e)
  rcases hG.apart (hob b hb) (hob a h1) hn2 with q|q
  ·rw[hsz b hb] at q;omega
  ·rw[hsz a h1] at q;omega
 have hdM:∀ b,D b→A6 (J3 M (f a+1+k) (M.roots.getD s 0)).W (f b)=A6 M.W (f b):=fun b hb=>oM _ (by
  by_cases e:b=a
  ·subst e;omega
  ·exact apM b hb e (f b) (Nat.le_refl _) (by omega))
 have hdI:∀ b,D b→A6 (I.put (a+1+k) (I.roots.getD s 0)).V b=A6 I.V b:=fun b hb=>oI _ (by
  by_cases e:b=a
  ·subst e;omega
  ·exact apI b hb e b (Nat.le_refl _) (by omega))
 have hszI:∀ b,D b→A9 (I.put (a+1+k) (I.roots.getD s 0)).V b=A9 I.V b:=fun b hb=>by unfold A9;rw[hdI b hb]
 have hlen:(I.put (a+1+k) (I.roots.getD s 0)).V.length=I.V.length:=Zd;have hobj:(D8 (J3 M (f a+1+k) (M.roots.getD s 0))).map (·.a)=(D8 M).map (·.a):=by
  obtain⟨pN,pO⟩:=D0l g2 (f a+1+k) (M.roots.getD s 0) (fun y hy=>by
   obtain⟨x,hx,ex⟩:=Ze.1 (h.obj a h1);rw[←ex];refine C3y g1 hx hy k ?_;have hw:=(A2z g1 hx).2.1;show k<(B5 x.w).toNat
   rw[hw,ex,h.morph.size a h1];exact hk)
  have e:D8 (J3 M (f a+1+k) (M.roots.getD s 0))=D8 (R5 M (f a+1+k) (M.roots.getD s 0)):=by unfold J3;split<;>rfl
  rw[e];unfold D8;rw[pN,pO]
 refine⟨⟨h.morph.inj,fun b hb=>by rw[hdM b hb,hdI b hb];exact h.morph.kind b hb,fun b hb=>by rw[hdM b hb,hdI b hb];exact h.morph.size b hb,fun b hb hq i hi=>?_,fun b hb hq i hi=>?_⟩,fun b hb=>by rw[hlen,hszI b hb];exact h.dom b hb,fun b c hb hc hbc=>by rw[hszI b hb];exact h.apart b c hb hc hbc,fun b hb=>by rw[hobj];exact h.obj b hb,by rw[e7];exact h.lenR,fun i hi=>by rw[e7];exact h.roots i hi,by rw[e8];exact h.lenK,fun i hi=>by rw[e8];exact h.weak i hi,fun u s2 hu=>by rw[e9];exact h.ids1 u s2 hu,fun v s2 hv=>by rw[e9] at hv;exact h.ids2 v s2 hv,fun i hi=>by rw[hlen];exact h.wkV i hi,fun u s2 hu=>by rw[hlen];exact h.idV u s2 hu,h.nodes⟩
 ·rw[hszI b hb] at hi;rw[hdI b hb] at hq;by_cases e:b=a
  ·subst e;by_cases e2:i=k
   ·subst e2;rw[nM,nI];exact h.roots s hs
   ·rw[oM _ (by omega),oI _ (by omega)];exact h.morph.fld b hb hq i hi
  ·rw[oM _ (apM b hb e _ (by omega) (by omega)),oI _ (apI b hb e _ (by omega) (by omega))];exact h.morph.fld b hb hq i hi
 ·rw[hszI b hb] at hi;rw[hdI b hb] at hq;have e:b≠a:=fun e=>by subst e;rw[hr.raw] at hq;cases hq
  rw[oM _ (apM b hb e _ (by omega) (by omega)),oI _ (apI b hb e _ (by omega) (by omega))];exact h.morph.raw b hb hq i hi
end
section
variable {I:B4} {M:A7} {D:Nat→Prop} {f:Nat→Nat} {ten nx:Int}
theorem A7q.live {N:A7} {go:Int→Int × Bool} {E:Nat→Prop} {g:Nat→Nat} (hm:A7q M N go E g):O4 N=O4 M:=by
 obtain⟨all,hk⟩:=hm.kept;exact E5a hk.morph hk.lenW hk.lenR hk.roots
theorem E4z (hI:D6 M nx):O4 (A1y M)=O4 M:=by
 unfold A1y
 split
 ·rename_i hl;exact (C1o (hI.full hl)).live
 ·rfl
theorem E5b (ht:0≤ten∧ten≤15) (hI:D6 M nx):O4 (A4x M ten)=O4 M:=by
 unfold A4x
 split
 ·rename_i hl;exact (C1q (M:=M) (ten:=ten) ⟨hI.ok,hI.chk,ht,by assumption⟩).live
 ·exact E4z hI
theorem C1m (h:A1x M≠0):M.old<(O4 M:Int):=by
 unfold A1x at h
 split at h
 ·exact absurd rfl h
 ·omega
theorem C8n (h:A4f M≠0):M.old<(O4 M:Int):=by
 unfold A4f at h
 split at h
 ·exact absurd rfl h
 ·exact C1m h
theorem C1z (ht:0≤ten∧ten≤15) (hI:D6 M nx) {sz:Nat} (hc:J0 M ten sz≠0):M.old<(O4 M:Int)+1+sz:=by
 by_cases h1:o1C M (1+sz)=0
 ·obtain⟨i1,s1⟩:=B0t (n:=1+(sz:Int)) ht hI;have l1:O4 (T6 M ten (1+sz))=O4 M:=by
   unfold T6
   split
   ·exact E5b ht hI
   ·rfl
  have o1:=s1.old;by_cases h2:o2C (T6 M ten (1+sz)) (1+sz)=0
  ·have h3:o3C (Y8 M ten sz) (1+sz)≠0:=fun e=>hc (B7s (kind:=0) h1 h2 e).1
   unfold Y8 at h3;generalize T6 M ten (1+sz)=M1 at *
   unfold o3C at h3
   split at h3
   ·exact absurd rfl h3
   ·rename_i q1
    split at h3
    ·exact absurd rfl h3
    ·rename_i q2;unfold o2M at q1 q2;by_cases hb:o2B M1 (1+sz)=true
     ·rw[if_pos hb] at q1 q2;unfold o2C at h2;rw[if_pos hb] at h2;unfold A1x at h2
      split at h2
      ·rename_i hl;unfold A1y at q1 q2;rw[if_pos hl] at q1 q2;have e1:(O5 M1).old=M1.old:=rfl;have e2:(O5 M1).oldTop=(O4 M1:Int):=rfl;rw[e1,e2] at q2;omega
      ·cases h2
     ·rw[if_neg hb] at q1 q2;exfalso;apply hb;unfold o2B;rw[decide_eq_true (show M1.half<M1.top+(1+sz) by omega),decide_eq_true (show M1.old-M1.oldTop<1+(sz:Int) by omega)];simp
  ·unfold o2C at h2
   split at h2
   ·have:=C1m h2;omega
   ·exact absurd rfl h2
 ·unfold o1C at h1
  split at h1
  ·have:=C8n h1;omega
  ·exact absurd rfl h1
theorem K7.live_le (h:K7 I M D f) (hg:goodB M=true):A1w I≤(I.P.map fun a=>1+A9 I.V a).sum:=by
 obtain⟨-,hi,-,hnd⟩:=h.reach hg;have e:A1w I=(((K4 I).map (·.a)).map fun a=>1+A9 I.V a).sum:=by
  unfold A1w;rw[List.map_map];congr 1;refine List.map_congr_left fun o ho=>?_
  obtain⟨-,eo⟩:=hi o ho;show 1+o.n=1+A9 I.V o.a;unfold Ob.n A9;rw[eo];rfl
 rw[e];exact B8j _ _ _ hnd fun a ha=>by
  obtain⟨o,ho,rfl⟩:=Ze.1 ha;exact h.nodes _ (hi o ho).1
theorem F0j (I:B4) {u:Int} (hu:u∈I.roots) {a:Nat} (h:B6 u=(a:Int)):a∈(K4 I).map (·.a):=by
 obtain⟨t,ht⟩:=B4t I.V I.V.length 0 (M8 I.V [] I.roots);have hin:InO (K4 I) u:=by
  unfold K4;rw[ht];exact B6v (B6b I.V _ _ u hu)
 have:=hin (by omega);rw[h] at this;obtain⟨o,ho,e⟩:=Ze.1 (List.contains_iff_mem.1 this);exact Ze.2 ⟨o,ho,by omega⟩
def B4.fresh (n:Nat):B4:=⟨[],[],List.replicate n 2,[],[]⟩
theorem C6m (half old card:Int) (n:Nat):Holds (B4.fresh n) (A3j half old card n):=by
 refine⟨fun _=>False,fun a=>a,⟨fun a b h=>h.elim,fun a h=>h.elim,fun a h=>h.elim,fun a h=>h.elim,fun a h=>h.elim⟩,fun a h=>h.elim,fun a b h=>h.elim,fun a h=>h.elim,rfl,fun i hi=>?_,rfl,fun i hi=>?_,fun u s hu=>?_,fun v s hv=>?_,fun i hi=>?_,fun u s hu=>?_,fun a h=>h.elim⟩
 ·have hi':i<n:=by simpa [B4.fresh] using hi
  left;show B6 ((List.replicate n (2:Int)).getD i 0)<0∧(List.replicate n (2:Int)).getD i 0=(List.replicate n (2:Int)).getD i 0;rw[Zb,List.getElem?_replicate,if_pos hi'];exact⟨by decide,rfl⟩
 ·simp[B4.fresh] at hi
 ·simp[B4.fresh] at hu
 ·simp[A3j,T3] at hv
 ·simp[B4.fresh] at hi
 ·simp[B4.fresh] at hu
end
def T9 (s:ByteArray):List Int:=A5i (A0z s)
theorem A9u (s:ByteArray):(T9 s).length=(s.size+7)/8:=by unfold T9 A5i;rw[List.length_map,List.length_range,B1l]
def K1 (s:ByteArray):Nat:=1+(s.size+7)/8
def A6o (W:List Int) (a:Nat) (s:ByteArray):List Int:=splice (W.set (a+1) (s.size:Int)) (a+1+1) (T9 s)
def D2b (N:A7) (a:Nat) (s:ByteArray):A7:={N with W:=A6o N.W a s}
def Z6 (M:A7) (ten:Int) (s:ByteArray):A7:=if J0 M ten (K1 s)=0 then D2b (J1 M ten 2 (K1 s)) (U1 M ten (K1 s)).toNat s else J1 M ten 2 (K1 s)
def A1n (M:A7) (ten:Int) (s:ByteArray):Int:=if J0 M ten (K1 s)=0 then D3 (U1 M ten (K1 s)) else 0
section
variable {B hb b:Nat} {M:A7} {S:C8} {E:Nat→Addr} {ten nx:Int}
theorem C2m {L:Nat→Prop} {w w':World} {g:Nat} {cs:List Value} (h:F7 w (some ⟨g,0,none⟩) cs) (hk:A8 L w w') (hn:¬L g):F7 w' (some ⟨g,0,none⟩) cs:=fun j u hu=>by
 have:=h.at_ hu;exact⟨g,0,rfl,hk.cell (p:=⟨g,0+j,none⟩) hn this⟩
theorem D8l {w:World} {l:List Int} (h:E7 w B hb b M S ten nx) {g:Nat} (hg:S.W.1=some ⟨g,0,none⟩) (A:Option Addr) (C d:Nat) (hd:d+l.length≤M.W.length) (hA:d<S.W.2→A=some ⟨g,d,none⟩) (lb:Nat) (c2:Nat) (hR:F7 w (some ⟨lb,0,none⟩) (C5 l)) :
  ∃ w',(Builtin.copy_ #[76,76] 3 #[.slice A (M.W.length-d) C,.slice (some ⟨lb,0,none⟩) l.length c2]).run Zg w=.ok (goInt l.length) w'∧E7 w' B hb b {M with W:=splice M.W d l} S ten nx∧D7 hb b w S w' S:=by
 by_cases hl:l.length=0
 ·have e:l=[]:=List.eq_nil_of_length_eq_zero hl;subst e;refine⟨w,?_,?_,D7.of_ext (A0.refl _)⟩
  ·have:=run_copy_none (P:=Zg) w 76 76 3 78 A (some ⟨lb,0,none⟩) (M.W.length-d) C 0 c2 A0c A9s (by simp);exact this
  ·have:splice M.W d []=M.W:=by simp[splice]
   rw[this];exact h
 ·obtain⟨g',hg',-,-,-,hgc,-⟩:=Q3 (B7.fW h.mem) (by omega);have hll:(C5 l).length=l.length:=by simp[C5]
  have hwl:(C5 M.W).length=M.W.length:=by simp[C5]
  obtain⟨w',hr,hb',ho⟩:=B9y (P:=Zg) (W:=w) 76 3 78 A0c A9s (B:=B) (a:=S.W.1) (c:=S.W.2) (xs:=C5 M.W) (by rw[hwl];exact B7.fW h.mem) hg A (some ⟨lb,0,none⟩) C c2 d (M.W.length-d) (C5 l) (hA (by omega)) ⟨lb,0,none⟩ rfl
   (fun k u hu=>by
    have:=hR.at_ hu;by_cases e:k=0
    ·subst e;simpa [Addr.add] using this
    ·simpa [Addr.add,e] using this) (A6r l) (by omega) (by omega) (by omega)
  rw[hll] at hr;rw[hwl] at ho;have hs:(splice M.W d l).length=M.W.length:=length_splice _ _ _ hd;have hO:B7 w' B b 140 {M with W:=splice M.W d l} S:=B7.rowW h.mem hg hb' _ hs (by rw[B8r];exact ho);obtain⟨z1,z2⟩:=h.step hO (⟨hb'.os,hb'.tape,hb'.output,Nat.le_of_eq hb'.size.symm,fun k hk hn=>hb'.block k (fun e=>hn (Or.inr (Or.inl (by rw[e];exact hg))))⟩) (fun _ q=>Or.inl q);exact⟨w',hr,z1,z2⟩
theorem F6p (w:World) (hH:E7 w B hb b M S ten nx) (hI:D6 M nx) (hE:G4 E w) (ht:0≤ten∧ten≤15) (hB:GB B) (s:ByteArray) (hs:s.size≤2000) :
  Calls Zg 123 #[.pointer (some ⟨hb,0,none⟩),.string s] w (R8 w B hb b S ten (Z6 M ten s) nx (.tuple #[.int .u64 (A1n M ten s),F1 E (J0 M ten (K1 s))])):=by
 have HH:=Hz hH;have HI:=Hz hI;have HE:=Hz hE;have HB:=Hz hB;obtain⟨i1,i2,i3⟩:=A4z (sz:=K1 s) ht hI 2 (by omega) (by unfold K1;omega);have I1:=Hz i1;have I3:=Hz i3;have hsl:=A9u s;obtain⟨m,hm⟩:∃ m,m=(s.size+7)/8:=⟨_,rfl⟩;have hnN:K1 s=1+m:=by unfold K1;rw[hm]
 have hm250:m≤250:=by omega
 have f0:IntKind.i64.wrap (1+(m:Int))=((1+m:Nat):Int):=by rw[IntWalk.i64_in _ (by omega)];omega
 have fz:IntKind.u64.wrap (s.size:Int)=(s.size:Int):=IntWalk.u64_in _ (by omega);rw[←hm] at hsl;have HM:=Hz hm;have hlb:∀ k,HL hb b S k→k<w.heap.size:=fun k hk=>(hH.own hk).2
 have HLB:=Hz hlb;have HN:=Hz hnN;have HSL:=Hz hsl;clear hH hI hE hB i1 i2 i3 hlb hsl;have HBY:=Hz (D6f s (by omega) w);rw[←hm] at HBY;by_cases hc:J0 M ten (K1 s)=0
 ·obtain⟨a,ha,hN⟩:=I3.out hc;have e1:Z6 M ten s=D2b (J1 M ten 2 (K1 s)) a s:=by unfold Z6;rw[if_pos hc,ha];rfl
  have e2:A1n M ten s=D3 (a:Int):=by unfold A1n;rw[if_pos hc,ha]
  have e3:F1 E (J0 M ten (K1 s))=.nilIface:=by rw[hc];rfl
  rw[e1,e2,e3];have HC0:=Hz e3;have HPL:=Hz ha;have hlen:=hN.len;have hla:=A3u (K5 (L8 I1.out.chk).1).1;obtain⟨N,hN2⟩:∃ N,N=J1 M ten 2 (K1 s):=⟨_,rfl⟩;rw[←hN2] at hlen hla ⊢;rw[hnN] at hlen;have HN2:=Hz hN2;have f1:IntKind.i64.wrap ((a:Int)+1)=((a+1:Nat):Int):=by rw[IntWalk.i64_in _ (by omega)];omega
  have f2:IntKind.i64.wrap ((a:Int)+2)=(a:Int)+2:=IntWalk.i64_in _ (by omega);clear e1 e2 e3 hc ha hN hN2 hm
  go_enter Tryz.func123,Tryz.ntmps123
  go_upto_region 5 with (first
   | (go_at_call 153;refine HBY.out.mono ?_;rintro e w1 ⟨rfl,hrow,hq⟩;have HX1:=Hz hq;have HRW:Hid (F7 w1 (some ⟨w.heap.size,0,none⟩) (C5 (T9 s))):=(R4 hrow).1;have HWZ:Hid (w.heap.size<w1.heap.size):=(hrow.lt w.heap.size rfl).2;clear hrow hq)
   | (go_at_call 41;refine (B7t 2 (1+m) _ (HH.out.ext HX1.out) HI.out (HE.out.ext HX1.out) ht HB.out (by omega) (by omega)).mono ?_;rintro e w2 ⟨he,S2,h1,h2⟩;rw[←HN.out,HC0.out,HPL.out] at he;subst he;rw[←HN.out,←HN2.out] at h1;have HH2:=Hz h1;have H2S:=Hz h2;have HS2:Hid (D7 hb b w S w2 S2):=(D7.of_ext HX1.out).trans_ h2;have HR2:Hid (F7 w2 (some ⟨w.heap.size,0,none⟩) (C5 (T9 s))):=C2m HRW.out h2.keep (fun e=>absurd (HLB.out _ e) (by omega));have HBZ:Hid (w.heap.size<w2.heap.size):=Nat.lt_of_lt_of_le HWZ.out h2.keep.size;clear h1 h2))
  have q0:=HH2.out.ptr;obtain⟨g,hg,-,-,hgf,hgc,-⟩:=Q3 (B7.fW HH2.out.mem) (by omega);have hfg:=hgf (a+1);have c3:=(HH2.out.mem.fld ⟨3,78,1,S2.W.1,N.W.length,S2.W.2,C5 N.W⟩ (by simp[F3])).1;have hcell:=((R4 (B7.fW HH2.out.mem)).1);rw[hg] at hcell
  replace hcell:=hcell.at_ (K2 N.W (a+1) (by omega))
  simp only[Zf] at hcell;simp only[I6.val,hg] at c3;have hjl:a+1<N.W.length:=by omega
  obtain⟨z1,z2⟩:=HH2.out.setW hg (a+1) hjl (s.size:Int);generalize N.W.getD (a+1) 0=xx at *
  have HG:=Hz hg;obtain⟨A,C,hsl2,hA⟩:=D1i (P:=Zg) A0c A3w g N.W.length S2.W.2 (a+1+1) ((a:Int)+2) (by omega) (by omega) hgc;have hsl3:N.W.length=(N.W.set (a+1) (s.size:Int)).length:=by simp
  have hR2:F7 (w2.setCell ⟨g,a+1,none⟩ (.int .u64 (s.size:Int))) (some ⟨w.heap.size,0,none⟩) (C5 (T9 s)):=C2m HR2.out z2.keep (fun e=>by
   rcases H2S.out.own _ e with q|q
   ·have:=HLB.out _ q;omega
   ·have:=HWZ.out;omega)
  obtain⟨w5,hrun,y1,y2⟩:=D8l z1 (l:=T9 s) hg A C (a+1+1) (by rw[←hsl3,HSL.out];omega) hA w.heap.size m hR2;rw[←hsl3,HSL.out] at hrun;have HY1:=Hz y1;have HY2:=Hz ((HS2.out.trans_ z2).trans_ y2);have z0:=z1.ptr;have z3:=(z1.mem.fld ⟨3,78,1,S2.W.1,(N.W.set (a+1) (s.size:Int)).length,S2.W.2,C5 (N.W.set (a+1) (s.size:Int))⟩ (by simp[F3])).1;simp only[I6.val,HG.out] at z3;rw[←hsl3] at z3;clear z1 z2 y1 y2 hgf hg hR2 hA hsl3
  go_wp2_with (go_at_call 43;refine (B0g _ _).mono ?_;rintro e w9 ⟨rfl,hw9⟩;have hw9:=hw9.symm;subst hw9)
  go_ret2
  exact⟨rfl,S2,HY1.out,HY2.out⟩
 ·have e1:Z6 M ten s=J1 M ten 2 (K1 s):=by unfold Z6;rw[if_neg hc]
  have e2:A1n M ten s=0:=by unfold A1n;rw[if_neg hc]
  obtain⟨ea,hv⟩:∃ ea,Hid (F1 E (J0 M ten (K1 s))=E0 ea):=⟨_,B0k E _ hc⟩;rw[e1,e2,hv.out];clear e1 e2 hc hm
  go_enter Tryz.func123,Tryz.ntmps123
  go_wp2_with (first
   | (go_at_call 153;refine HBY.out.mono ?_;rintro e w1 ⟨rfl,hrow,hq⟩;have HX1:=Hz hq;have HRW:Hid (F7 w1 (some ⟨w.heap.size,0,none⟩) (C5 (T9 s))):=(R4 hrow).1;have HWZ:Hid (w.heap.size<w1.heap.size):=(hrow.lt w.heap.size rfl).2;clear hrow hq)
   | (go_at_call 41;refine (B7t 2 (1+m) _ (HH.out.ext HX1.out) HI.out (HE.out.ext HX1.out) ht HB.out (by omega) (by omega)).mono ?_;rintro e w2 ⟨he,S2,h1,h2⟩;rw[←HN.out,hv.out] at he;subst he;rw[←HN.out] at h1;have HH2:=Hz h1;have H2S:=Hz h2;have HS2:Hid (D7 hb b w S w2 S2):=(D7.of_ext HX1.out).trans_ h2;have HR2:Hid (F7 w2 (some ⟨w.heap.size,0,none⟩) (C5 (T9 s))):=C2m HRW.out h2.keep (fun e=>absurd (HLB.out _ e) (by omega));have HBZ:Hid (w.heap.size<w2.heap.size):=Nat.lt_of_lt_of_le HWZ.out h2.keep.size;clear h1 h2))
  go_ret2
  exact⟨rfl,S2,HH2.out,HS2.out⟩
end
section
variable {B hb b:Nat} {M:A7} {S:C8} {E:Nat→Addr} {ten nx:Int}
theorem F6l (s:ByteArray):∀ x∈T9 s,0≤x∧x≤18446744073709551615:=fun x hx=>by
 obtain⟨i,-,rfl⟩:=Ze.1 hx;exact C4e _ (B3j s) i
theorem D2c (W:List Int) (a:Nat) (s:ByteArray) (h:a+1+K1 s≤W.length):(A6o W a s).length=W.length∧∀ i,¬(a+1≤i∧i<a+1+K1 s)→A6 (A6o W a s) i=A6 W i:=by
 have hl:=A9u s;have hn:K1 s=1+(s.size+7)/8:=rfl;refine⟨?_,fun i hi=>?_⟩
 ·unfold A6o;rw[length_splice _ _ _ (by simp;omega)];simp
 ·unfold A6o;rw[B1c _ _ _ _ (by simp;omega),if_neg (by omega),A2r _ _ _ _ (by omega)]
theorem D2f (ht:0≤ten∧ten≤15) (h:D6 M nx) (s:ByteArray) (hs:s.size≤2000):D6 (Z6 M ten s) nx∧Q8 M (Z6 M ten s)∧(J0 M ten (K1 s)=0→∃ lN lO,L7 (Z6 M ten s) lN lO∧D0 (stL lN lO) (A1n M ten s)=true):=by
 have hn:K1 s=1+(s.size+7)/8:=rfl;obtain⟨i1,i2,i3⟩:=A4z ht h 2 (K1 s) (by omega) (by omega);by_cases hc:J0 M ten (K1 s)=0
 ·obtain⟨a,ha,hN⟩:=i3 hc;obtain⟨lN,lO,hg,hm⟩:=hN.good;have e1:Z6 M ten s={J1 M ten 2 (K1 s) with W:=A6o (J1 M ten 2 (K1 s)).W a s}:=by unfold Z6;rw[if_pos hc,ha];rfl
  have e2:A1n M ten s=D3 (a:Int):=by unfold A1n;rw[if_pos hc,ha]
  have hlen:=hN.len;obtain⟨s1,s2⟩:=D2c (J1 M ten 2 (K1 s)).W a s hlen;obtain⟨d1,d2,d3,d4,d5⟩:=A1t 2 0 0 (K1 s:Int) (by omega) (by omega) (by omega) ⟨by omega,by omega⟩;have hr:D2 (B3 (A6 (J1 M ten 2 (K1 s)).W a))=true:=by rw[hN.hd,d2];rfl
  have hsz:A9 (J1 M ten 2 (K1 s)).W a=K1 s:=by unfold A9;rw[hN.hd,d5];omega
  obtain⟨k1,k2,k3⟩:=C2h i1 hg hm hr (A6o (J1 M ten 2 (K1 s)).W a s) s1 (fun i hi=>s2 i (by rw[hsz] at hi;exact hi)) (fun x hx=>by
   unfold A6o at hx;rcases C2w hx with q|q
   ·rcases List.mem_or_eq_of_mem_set q with q|q
    ·exact i1.ok.W x q
    ·rw[q];omega
   ·exact F6l s x q)
  rw[e1,e2];exact⟨k1,i2.trans k2,fun _=>⟨lN,lO,k3,B9k hg hm⟩⟩
 ·have e1:Z6 M ten s=J1 M ten 2 (K1 s):=by unfold Z6;rw[if_neg hc]
  rw[e1];exact⟨i1,i2,fun q=>absurd q hc⟩
theorem F7h (w:World) (hH:E7 w B hb b M S ten nx) (hI:D6 M nx) (hE:G4 E w) (r:Int) (hr0:-9223372036854775808≤r∧r≤9223372036854775807) (s:ByteArray) (hR:rootB M r=false) :
  Calls Zg 68 #[.pointer (some ⟨hb,0,none⟩),.int .i64 r,.string s] w (R8 w B hb b S ten M nx (F1 E 5)):=by
 have HH:=Hz hH;have HI:=Hz hI;have HE:=Hz hE;have HR:=Hz hR;clear hH hI hE hR
 go_enter Tryz.func68,Tryz.ntmps68
 go_wp2_with (go_at_call 40;refine (A2o _ (HH.out.ext ((A0.refl w).alloc_ _)) HI.out.ok w.heap.size r hr0.1 hr0.2 (by rw[World.cell?,heap_alloc_new];rfl)).mono ?_;rintro e w1 ⟨he,hq⟩;rw[HR.out] at he;subst he;have HX1:Hid (A0 w w1):=((A0.refl w).alloc_ _).trans_ hq;clear hq;have k3:=(HE.out.ext HX1.out).place)
 go_ret;exact⟨rfl,S,HH.out.ext HX1.out,D7.of_ext HX1.out⟩
theorem F7f (w:World) (hH:E7 w B hb b M S ten nx) (hI:D6 M nx) (hE:G4 E w) (r:Int) (hr0:-9223372036854775808≤r∧r≤9223372036854775807) (s:ByteArray) (hR:rootB M r=true) (hs:¬s.size≤2000) :
  Calls Zg 68 #[.pointer (some ⟨hb,0,none⟩),.int .i64 r,.string s] w (R8 w B hb b S ten M nx (F1 E 2)):=by
 have HH:=Hz hH;have HI:=Hz hI;have HE:=Hz hE;have HR:=Hz hR;have hs1:2000<s.size:=by omega
 have hs2:(2000:Int)<(s.size:Int):=by omega
 clear hH hI hE hR hs
 go_enter Tryz.func68,Tryz.ntmps68
 go_wp2_with (go_at_call 40;refine (A2o _ (HH.out.ext ((A0.refl w).alloc_ _)) HI.out.ok w.heap.size r hr0.1 hr0.2 (by rw[World.cell?,heap_alloc_new];rfl)).mono ?_;rintro e w1 ⟨he,hq⟩;rw[HR.out] at he;subst he;have HX1:Hid (A0 w w1):=((A0.refl w).alloc_ _).trans_ hq;clear hq;have k3:=(HE.out.ext HX1.out).bound)
 go_ret;exact⟨rfl,S,HH.out.ext HX1.out,D7.of_ext HX1.out⟩
theorem F7i (w:World) (hH:E7 w B hb b M S ten nx) (hI:D6 M nx) (hE:G4 E w) (ht:0≤ten∧ten≤15) (hB:GB B) (r:Int) (hr0:-9223372036854775808≤r∧r≤9223372036854775807) (s:ByteArray) (hR:rootB M r=true) (hs:s.size≤2000) :
  Calls Zg 68 #[.pointer (some ⟨hb,0,none⟩),.int .i64 r,.string s] w (R8 w B hb b S ten (P5 (Z6 M ten s) (J0 M ten (K1 s)) r.toNat (A1n M ten s)) nx (F1 E (J0 M ten (K1 s)))):=by
 have HH:=Hz hH;have HI:=Hz hI;have HE:=Hz hE;have HR:=Hz hR;have HB:=Hz hB;obtain⟨rn,rfl⟩:∃ rn:Nat,r=(rn:Int):=⟨r.toNat,by have:=(Y2.1 hR).1;omega⟩;have hrl:rn<M.roots.length:=by have:=(Y2.1 hR).2;omega
 have hIN:=D2f ht hI s hs;have HIN:=Hz hIN.1;have hrl2:rn<(Z6 M ten s).roots.length:=by rw[hIN.2.1.roots];exact hrl
 simp only[Za];have HRL:=Hz hrl2;generalize hV:A1n M ten s=V;have HV:=Hz hV;have HSZ:=Hz hs;have hs1:¬2000<s.size:=by omega
 have hs2:¬(2000:Int)<(s.size:Int):=by omega
 clear hH hI hE hR hB hIN hrl2 hV hs
 go_enter Tryz.func68,Tryz.ntmps68
 go_wp2_with (first
  | (go_at_call 40;refine (A2o _ (HH.out.ext ((A0.refl w).alloc_ _)) HI.out.ok w.heap.size (rn:Int) hr0.1 hr0.2 (by rw[World.cell?,heap_alloc_new];rfl)).mono ?_;rintro e w1 ⟨he,hq⟩;rw[HR.out] at he;subst he;have HX1:Hid (A0 w w1):=((A0.refl w).alloc_ _).trans_ hq;clear hq)
  | (go_at_call 123;refine (F6p _ (HH.out.ext HX1.out) HI.out (HE.out.ext HX1.out) ht HB.out s HSZ.out).mono ?_;rintro e w2 ⟨he,S2,h1,h2⟩;rw[HV.out] at he;subst he;have HH2:=Hz h1;have HS2:Hid (D7 hb b w S w2 S2):=(D7.of_ext HX1.out).trans_ h2;clear h1 h2)
  | (go_at_call 42;refine (B8g (E:=E) w2 HH2.out HIN.out.ok (J0 M ten (K1 s)) rn HRL.out V).mono ?_;rintro e w3 ⟨rfl,S3,h3,h4⟩;have HH3:=Hz h3;have HS3:Hid (D7 hb b w S w3 S3):=HS2.out.trans_ h4;clear h3 h4))
 go_ret;exact⟨rfl,S3,HH3.out,HS3.out⟩
end
end Go.Proofs.YtelhoppfidibiaaGreatDoor
