/- The minor collection moves a graph: plainly. -/
import Derived.Test.YtelhoppfidibiaaGreatDoorJXa21
set_option linter.unusedSimpArgs false
set_option linter.unusedVariables false
namespace Go.Proofs.YtelhoppfidibiaaGreatDoor
open Go.RowKit
open Bool renaming and_eq_true→Za
open List renaming all_eq_true→Zb,contains_iff_mem→Zc,getD_eq_getElem?_getD→Zd,length_map→Ze,length_replicate→Zf,mem_map→Zg,mem_of_mem_drop→Zh,mem_of_mem_take→Zi,mem_or_eq_of_mem_set→Zj,mem_range→Zk
def goC (M0:A7) (C:D9) (a:Nat):Nat:=if a∈(partO M0).1.map (·.a) then a else ((K0 C.mv (a:Int)).getD 0).toNat
def B1f (M0:A7) (C:D9) (a:Nat):Prop:=∃ b,K9 M0 C.mv a b
section
variable {M0:A7} {ten:Int} {C:D9}
theorem R6.go (h:R6 M0 ten C) (hr:J8 M0 ten) {a b:Nat} (hi:K9 M0 C.mv a b):goC M0 C a=b:=by
 obtain⟨D,hv⟩:=h.inv;unfold goC;rcases hi with⟨rfl,hm⟩|hm
 ·rw[if_pos hm]
 ·have hn:¬a∈(partO M0).1.map (·.a):=fun q=>by
   obtain⟨x,hx,ex⟩:=Zg.1 q;obtain⟨y,hy,ey⟩:=hv.keyN hm;have r1:=hr.inO hx;have r2:=hr.inN hy;obtain⟨hh,e1,e2,e3,e4,e5,e6,e7,e8,e9,e10,e11,e12⟩:=hr.shp.nums;rcases e3 with⟨u1,u2,u3⟩|⟨u1,u2,u3⟩<;>omega
  rw[if_neg hn,B7j hv.nodupI hm];simp
theorem R6.img (h:R6 M0 ten C) (hr:J8 M0 ten) {a:Nat} (hd:B1f M0 C a):K9 M0 C.mv a (goC M0 C a):=by
 obtain⟨b,hi⟩:=hd;rw[h.go hr hi];exact hi
theorem R6.corr (h:R6 M0 ten C) (hr:J8 M0 ten) {u v:Int} (hf:D0 (C6 M0) u=true) (hv:Fol M0 C.mv u v):Q6 (goC M0 C) (B1f M0 C) u v:=by
 rcases h.cor hr hf hv with⟨q,e⟩|⟨a,b,q1,q2,q3,q4,q5,q6,q7,⟨x,hx,ex⟩,q8⟩
 ·left;refine⟨?_,e⟩;unfold B6;rw[if_neg (fun r=>by rcases q with q|q;exact q r.1;exact r.2.1 q)];omega
 ·right;have hb:=h.small hr q4;have ha:a≤1000000:=by
   have:=(A2z hr.shp hx).1;have:=A3u hr.shp;omega
  have e1:B6 u=(a:Int):=by unfold B6;rw[if_pos ⟨q1,q2,by unfold C9 at q3;omega⟩];exact q3
  have e2:B6 v=(b:Int):=by unfold B6;rw[if_pos ⟨q5,q6,by unfold C9 at q7;omega⟩];exact q7
  exact⟨a,e1,⟨b,q4⟩,by rw[h.go hr q4];exact e2,q1,q2,q5,q6⟩
theorem R6.morph (h:R6 M0 ten C) (hr:J8 M0 ten):A0m M0.W (P9 M0 C).W (B1f M0 C) (goC M0 C):=by
 obtain⟨D,hv⟩:=h.inv;refine⟨fun a b ha hb e=>?_,fun a ha=>(hv.hd hr (h.img hr ha)).2.2.1,fun a ha=>?_,fun a ha hq k hk=>?_,fun a ha hq k hk=>(h.fld (h.img hr ha) hk).1 hq⟩
 ·have h1:=h.img hr ha;have h2:=h.img hr hb;rw[e] at h1;exact hv.inj hr h1 h2
 ·obtain⟨d1,d2,d3,d4,d5⟩:=hv.hd hr (h.img hr ha);have z1:=(Z9 (A6 M0.W a) (O6 hr.ok a).1).2.2.2.2.2.2;have z2:=(Z9 (A6 C.M.W (goC M0 C a)) (O6 hv.ok _).1).2.2.2.2.2.2;unfold A9 at d4;show B5 (A6 C.M.W (goC M0 C a))=_;omega
 ·exact h.corr hr (hv.fldB_ hr (h.img hr ha) hq hk) ((h.fld (h.img hr ha) hk).2 hq)
theorem R6.reach (h:R6 M0 ten C) (hr:J8 M0 ten):F5 (P9 M0 C)=(F5 M0).map (fun o=>D4 C.M.W (goC M0 C o.a))∧InD M0.W (B1f M0 C) (F5 M0):=by
 have hg:=(K5 (L8 hr.chk).1).2.2.1;unfold J6 at hg;rw[Zb] at hg;have hl:(P9 M0 C).W.length=M0.W.length:=by obtain⟨D,hv⟩:=h.inv;exact hv.like.lenW
 exact D0y (h.morph hr) hl h.rootsL.symm fun i hi=>h.corr hr (Y1 hg hi) (h.roots i hi)
end
section
variable {M:A7} {ten:Int}
theorem D7p (hr:J8 M ten):chk (A5j M ten)=0:=by rw[C4j];exact (B5z hr).chk hr
end
section
variable {M:A7} {ten:Int}
end
structure F9e (M0:A7) (ten:Int) (k:Nat) (N:A7):Prop where
 ok:N.Ok
 chk:chk N=0
 few:Few N
 graph:A8e N=A8e M0
 ages:∀ x∈(partN N).1,(k:Int)≤F4 x.w
 lt:0<k→∀ x∈(partN N).1,F4 x.w≤ten
theorem E6f {M:A7} {ten:Int} (hr:J8 M ten):B9e false M (A5j M ten) (O0 (R9 M ten)) (B1f M (R9 M ten)) (goC M (R9 M ten)):=by
 have hf:=B5z hr;have hg:=(L8 hr.chk).1;have hgN:=(L8 (D7p hr)).1;obtain⟨D,hv⟩:=hf.inv;have hro:=(K5 hg).2.2.1;refine⟨hf.morph hr,hv.like.lenW,hf.rootsL.symm,fun i hi=>hf.corr hr (A4d hro hi) (hf.roots i hi),?_,?_,fun u hu hl=>hf.corr hr hu (C1d hv.like hl),fun u hu hl=>?_,(fun h=>by cases h),hg,hgN⟩
 ·show A0u (R9 M ten)=_;unfold A0u;rw[hv.like.weak]
 ·show A3s (R9 M ten)=_;unfold A3s;rw[hv.like.ids]
 ·unfold O0 at hl;rw[hv.like.stays] at hl
  cases hs:stays M u with
  | true=>rw[hs] at hl;simp at hl
  | false =>
   have hy:J5 M u=true:=by unfold stays at hs;simpa using hs
   rw[hs] at hl;have hyy:=hy;unfold J5 L4 at hyy;simp only[Za,beq_iff_eq,bne_iff_ne,ne_eq,Bool.not_eq_true',decide_eq_false_iff_not] at hyy;obtain⟨⟨k1,k2⟩,k3⟩:=hyy;have hp:A1j u=true:=by
    unfold C7 at k1;unfold A1j;simp[k1,k2]
   refine⟨hp,?_⟩
   cases hm:K0 (R9 M ten).mv (C9 u) with
   | some tq=>rw[hm] at hl;simp at hl
   | none =>
    cases hq:A8i M u with
    | false=>rfl
    | true =>
     exfalso;unfold A8i at hq;simp only[Za,decide_eq_true_eq] at hq;obtain⟨q1,q2⟩:=hq;obtain⟨o,ho,e⟩:=Zg.1 (Zc.1 q2);have ep:B6 u=C9 u:=by
      unfold B6 at q1 ⊢
      split at q1
      ·rename_i hc;rw[if_pos hc]
      ·omega
     obtain⟨b,hi⟩:=((hf.reach hr).2 o ho).1;rcases hi with⟨_,hm2⟩|hm2
     ·obtain⟨x,hx,ex⟩:=Zg.1 hm2;have:=(hr.inO hx).2.2.1;unfold D1 at this;omega
     ·have:=B4i hm _ hm2;simp only at this;omega
def U64 (x:Int):Prop:=0≤x∧x≤18446744073709551615
theorem B3y (M:A7) {u:Int} (h:U64 u):U64 (J9 M u):=by
 unfold J9 Q0
 split
 ·exact h
 ·split
  ·exact B3b _
  ·exact⟨by decide,by decide⟩
theorem D3f {W:List Int} (h:∀ x∈W,U64 x) (i:Nat):U64 (A6 W i):=by
 unfold A6;by_cases q:i<W.length
 ·exact Y1 (P:=U64) h q
 ·rw[Zd,List.getElem?_eq_none (by omega)];exact⟨by decide,by decide⟩
theorem C2w {L:List Int} {off:Nat} {cs:List Int} {x:Int} (h:x∈splice L off cs):x∈L∨x∈cs:=by
 unfold splice at h;rcases List.mem_append.1 h with h|h
 ·exact Or.inl (Zi h)
 ·rcases List.mem_append.1 h with h|h
  ·exact Or.inr h
  ·exact Or.inl (Zh h)
theorem C0g {fw:Int→Int} (hf:∀ u,U64 u→U64 (fw u)):∀ (n:Nat) (W:List Int) (i:Nat),(∀ x∈W,U64 x)→∀ x∈A2w fw W i n,U64 x
 | 0,_,_,h=>h
 | n+1,W,i,h=>C0g hf n _ _ fun x hx=>by
  rcases Zj hx with q|q
  ·exact h x q
  ·subst q;exact hf _ (D3f h i)
theorem C2v {hb:Nat} {Y W:List Int} {a t:Nat} (hw:∀ x∈W,U64 x) (hy:∀ x∈Y,U64 x) (hd:P7 (A6 W a)=true):∀ x∈A3x hb Y W a t,U64 x:=fun x hx=>by
 unfold A3x at hx;rcases Zj hx with q|q
 ·rcases C2w q with q|q
  ·exact hw x q
  ·have:=Zh (Zi q);unfold A8q at this
   split at this
   ·exact hw x this
   ·exact hy x this
 ·subst q;have h0:=(D3f hw a).1;obtain⟨k0,k1,a0,a1,m0,m1,z0⟩:=Z9 (A6 W a) h0;exact C6f ⟨k0,k1⟩ ⟨by omega,by omega⟩ ⟨m0,m1⟩ ⟨z0,((A1v _).1 hd).2.2⟩
theorem F5s {hb:Nat} {fw:Int→Int} (hf:∀ u,U64 u→U64 (fw u)) {Y W:List Int} {p:Nat × Nat} (hw:∀ x∈W,U64 x) (hy:∀ x∈Y,U64 x) (hd:P7 (A6 W p.1)=true):∀ x∈A6n hb fw Y W p,U64 x:=by
 unfold A6n
 split
 ·exact C2v hw hy hd
 ·exact C0g hf _ _ _ (C2v hw hy hd)
section
variable {M:A7}
theorem I7.hdM (h:I7 M) {a:Nat} (ha:Z7 M a):P7 (A6 M.W a)=true∧G5 (A6 M.W a)=0∧a+1+A9 M.W a≤M.W.length:=by
 obtain⟨x,hx,ex,-,hw⟩:=h.dom ha;obtain⟨p1,p2,p3,p4⟩:=h.place hx;obtain⟨hh,e1,e2,e4,e5,e6,e7,e8,e9,e10,e12⟩:=h.nums;rw[ex] at p2 p3 p4;refine⟨p2,p3,?_⟩;rcases p4 with⟨q1,q2⟩|⟨q1,q2,q3⟩<;>omega
theorem I7.words (h:I7 M):∀ k,k≤(K3 M).length→∀ x∈A4e M k,U64 x
 | 0,_=>fun x hx=>h.ok.W x hx
 | k+1,hk=>by
  have hlt:k<(K3 M).length:=by omega
  rw[C8e hlt];have hm:((K3 M)[k],V8 M k)∈N5 M:=by
   rw[←B5d hlt];exact List.getElem_mem _
  refine F5s (fun u hu=>B3y M hu) (I7.words h k (by omega)) (fun x hx=>h.ok.W x (Zi hx)) ?_;have hs:=(h.slidAt k).hd_ (h.fits _ hm);rw[hs];exact (h.hdM (B2p hm)).1
theorem I7.wordsE (h:I7 M):∀ x∈O9 M,U64 x:=by
 rw[←C8d];exact h.words _ (Nat.le_refl _)
end
def O5 (M:A7):A7:={M with W:=O9 M,roots:=M.roots.map (J9 M),weak:=M.weak.map (J9 M),ids:=M.ids.filterMap fun x=>if (Q0 M x.1).2 then some ((Q0 M x.1).1,x.2) else none,top:=0,oldTop:=(O4 M:Int),cards:=List.replicate M.cards.length false}
section
variable {M:A7}
theorem I7.shpN (h:I7 M):G2 (O5 M):=by
 have hs:=h.shp;have hr:=h.room;exact⟨hs.h1,hs.h2,hs.o1,hs.o2,hs.c1,hs.c2,by show ((O9 M).length:Int)=_;rw[h.slid.len];exact hs.w,hs.u1,hs.u2,Int.le_refl _,by show (0:Int)≤M.half;have:=hs.h1;omega,by show (0:Int)≤(O4 M:Int);omega,hr,by show ((List.replicate M.cards.length false).length:Int)=_;rw[Zf];exact hs.cl⟩
theorem I7.okN (h:I7 M):(O5 M).Ok:=by
 have ho:=h.ok;have hs:=h.shpN;have h1:=hs.p2;have h2:=hs.o2;have h3:=hs.p1;refine⟨ho.half,ho.old,ho.card,ho.used,by show (-9223372036854775808:Int)≤0∧(0:Int)≤_;omega,by have:(O5 M).old=M.old:=rfl;omega,h.wordsE,fun x hx=>?_,fun x hx=>?_,fun x hx=>?_,?_,?_,?_,?_,?_⟩
 ·obtain⟨u,hu,rfl⟩:=Zg.1 hx;exact B3y M (ho.roots u hu)
 ·obtain⟨u,hu,rfl⟩:=Zg.1 hx;exact B3y M (ho.weak u hu)
 ·obtain⟨y,hy,e⟩:=List.mem_filterMap.1 hx
  split at e
  ·injection e with e;subst e;exact⟨B3y M (ho.ids y hy).1,(ho.ids y hy).2⟩
  ·cases e
 ·show (O9 M).length≤_;rw[h.slid.len];exact ho.lenW
 ·show (M.roots.map (J9 M)).length≤_;rw[Ze];exact ho.lenR
 ·show (M.weak.map (J9 M)).length≤_;rw[Ze];exact ho.lenK
 ·exact Nat.le_trans (List.length_filterMap_le _ _) ho.lenI
 ·show (List.replicate M.cards.length false).length≤_;rw[Zf];exact ho.lenC
theorem I7.to_in (h:I7 M) {a:Nat} (ha:Z7 M a):D1 M≤N6 M a∧N6 M a+1+A9 M.W a≤D1 M+O4 M∧N6 M a≤1000000:=by
 have hge:=B8l M.W (K3 M) (D1 M) _ (A7h ha);have he:A3h M.W (D1 M) (K3 M)=D1 M+O4 M:=h.endE;obtain⟨hh,e1,e2,e4,e5,e6,e7,e8,e9,e10,e12⟩:=h.nums;have hr:=h.room;simp only at hge;exact⟨hge.1,by omega,by omega⟩
theorem I7.inj (h:I7 M) {a b:Nat} (ha:Z7 M a) (hb:Z7 M b) (e:N6 M a=N6 M b):a=b:=by
 have hp:=D2m M.W (K3 M) (D1 M);have h1:=A7h ha;have h2:=A7h hb;have hnd:((N5 M).map (·.2)).Nodup:=by
  unfold List.Nodup;rw[List.pairwise_map];exact hp.imp fun hxy q=>by omega
 have:=B7r hnd h1 h2 e;injection this
theorem I7.hdN (h:I7 M) {a:Nat} (ha:Z7 M a):P7 (A6 (O9 M) (N6 M a))=true∧B3 (A6 (O9 M) (N6 M a))=B3 (A6 M.W a)∧F4 (A6 (O9 M) (N6 M a))=0∧G5 (A6 (O9 M) (N6 M a))=0∧A9 (O9 M) (N6 M a)=A9 M.W a:=by
 have e:=h.slid.head _ (A7h ha);simp only at e;obtain⟨d1,d2,d3⟩:=h.hdM ha;obtain⟨r1,r2,r3,r4,r5⟩:=C3x (O6 h.ok a).1 d1;rw[e];exact⟨r1,r2,r3,by rw[r4];exact d2,by unfold A9;rw[e,r5]⟩
theorem I7.fw (h:I7 M) {u:Int} (hf:D0 (C6 M) u=true) :
  ((C7 u≠0∨u=0)∧Q0 M u=(u,true))∨∃ a:Nat,C7 u=0∧u≠0∧C9 u=(a:Int)∧B6 u=(a:Int)∧(∃ x∈D8 M,x.a=a)∧((Z7 M a∧Q0 M u=(D3 (N6 M a),true))∨(¬Z7 M a∧Q0 M u=(2,false))):=by
 by_cases hk:C7 u≠0∨u=0
 ·exact Or.inl ⟨hk,if_pos hk⟩
 ·right;have hk1:C7 u=0:=by omega
  have hk2:u≠0:=by omega
  have hp:A1j u=true:=by
   unfold C7 at hk1;unfold A1j;simp[hk1,hk2]
  have hpt:=C2e h.good hf hp;have ep:B6 u=C9 u:=by
   unfold B6 at hpt ⊢
   split at hpt
   ·rename_i hc;rw[if_pos hc]
   ·omega
  have hin:C9 u∈C6 M:=by
   unfold D0 at hf;rw[if_pos hk1] at hf;simp only[Bool.or_eq_true,beq_iff_eq] at hf;rcases hf with q|q
   ·exact absurd q hk2
   ·exact Zc.1 q
  obtain⟨x,hx,e⟩:=Zg.1 hin;refine⟨x.a,hk1,hk2,e.symm,by rw[ep];exact e.symm,⟨x,hx,rfl⟩,?_⟩;have hd:F8 (G9 (F5 M)) (C9 u)=true↔Z7 M x.a:=by
   rw[B1y];unfold Z7;rw[Zg];constructor
   ·rintro⟨o,ho,q⟩;exact⟨o,ho,by omega⟩
   ·rintro⟨o,ho,q⟩;exact⟨o,ho,by omega⟩
  unfold Q0;rw[if_neg hk];by_cases q:Z7 M x.a
  ·left;rw[if_pos (hd.2 q),←e];exact⟨q,rfl⟩
  ·right;rw[if_neg (fun r=>q (hd.1 r))];exact⟨q,rfl⟩
theorem I7.cor (h:I7 M) {u:Int} (hf:D0 (C6 M) u=true) (hy:(Q0 M u).2=true):Q6 (N6 M) (Z7 M) u (J9 M u):=by
 unfold J9;rcases h.fw hf with⟨q,e⟩|⟨a,k1,k2,k3,k4,-,⟨d,e⟩|⟨d,e⟩⟩
 ·left;rw[e];refine⟨?_,rfl⟩;unfold B6;rw[if_neg (fun r=>by rcases q with q|q;exact q r.1;exact r.2.1 q)];omega
 ·right;rw[e];have ht:=h.to_in d;have hw:=A5v (N6 M a:Int);have hp:=B2g (N6 M a:Int) ⟨by omega,by omega⟩;have hn:D3 (N6 M a:Int)≠0:=by unfold D3;omega
  refine⟨a,k4,d,?_,k1,k2,hw.2.2,hn⟩;unfold B6;rw[if_pos ⟨hw.2.2,hn,by unfold C9 at hp;omega⟩];exact hp
 ·rw[e] at hy;cases hy
theorem I7.fw_in (h:I7 M) {u:Int} (hf:D0 (C6 M) u=true) (hi:InO (F5 M) u):(Q0 M u).2=true:=by
 rcases h.fw hf with⟨q,e⟩|⟨a,k1,k2,k3,k4,-,⟨d,e⟩|⟨d,e⟩⟩
 ·rw[e]
 ·rw[e]
 ·exfalso;apply d;have:=hi (by omega);rw[k4,B1y] at this;obtain⟨o,ho,q⟩:=this;exact Zg.2 ⟨o,ho,by omega⟩
theorem I7.fld_in (h:I7 M) {a:Nat} (ha:Z7 M a) (hr:D2 (B3 (A6 M.W a))=false) {k:Nat} (hk:k<A9 M.W a):D0 (C6 M) (A6 M.W (a+1+k))=true∧InO (F5 M) (A6 M.W (a+1+k)):=by
 obtain⟨x,hx,rfl,hx2,hw⟩:=h.dom ha;have hfo:=(K5 h.good).2.2.2.2.1;have hn:x.n=A9 M.W x.a:=by unfold Ob.n A9;rw[hw]
 refine⟨B1t hfo hx (by rw[hw];exact hr) k (by omega),?_⟩;rcases F0m h.good x hx2 with q|q
 ·rw[hw,hr] at q;cases q
 ·exact q _ (Zg.2 ⟨k,Zk.2 (by omega),rfl⟩)
theorem I7.morph (h:I7 M):A0m M.W (O5 M).W (Z7 M) (N6 M):=by
 refine⟨fun a b ha hb e=>h.inj ha hb e,fun a ha=>(h.hdN ha).2.1,fun a ha=>?_,fun a ha hr k hk=>?_,fun a ha hr k hk=>h.slid.raw _ (A7h ha) hr k hk⟩
 ·have e:=h.slid.head _ (A7h ha);simp only at e;show B5 (A6 (O9 M) (N6 M a))=_;rw[e];exact (C3x (O6 h.ok a).1 (h.hdM ha).1).2.2.2.2
 ·have e:=h.slid.fld _ (A7h ha) hr k hk;obtain⟨f1,f2⟩:=h.fld_in ha hr hk;show Q6 _ _ _ (A6 (O9 M) (N6 M a+1+k));rw[e];exact h.cor f1 (h.fw_in f1 f2)
theorem C7v {V W:List Int}:∀ (l:List Nat) (t:Nat),(∀ p∈Q4 V t l,P7 (A6 W p.2)=true∧A9 W p.2=A9 V p.1)→N7 W t ((Q4 V t l).map (·.2)) (A3h V t l)
 | [],t,_=>rfl
 | a::l,t,hp=>by
  obtain⟨h1,h2⟩:=hp (a,t) (by simp[Q4]);simp only at h1 h2;rw[Q4,A3h,List.map_cons];refine⟨rfl,h1,?_⟩;rw[h2];exact C7v l _ fun p hpm=>hp p (by rw[Q4];exact List.mem_cons_of_mem _ hpm)
theorem I7.parts (h:I7 M):partN (O5 M)=([],true)∧partO (O5 M)=(((N5 M).map (·.2)).map (D4 (O9 M)),true):=by
 have hs:=h.shpN;constructor
 ·unfold partN;show part (O9 M) (O5 M).base ((O5 M).base+(0:Int).toNat)=_;exact B4r _ _ _ (by simp)
 ·have hl:N7 (O9 M) (D1 M) ((N5 M).map (·.2)) (B1r M):=C7v (K3 M) (D1 M) fun p hp=>by
   have hd:=B2p (M:=M) hp;have e:=C3a h.good (p:=p) hp;have:=h.hdN hd;rw[e] at this;exact⟨this.1,this.2.2.2.2⟩
  unfold partO;show part (O9 M) (2*M.half).toNat ((2*M.half).toNat+((O4 M:Nat):Int).toNat)=_;rw[show (2*M.half).toNat=D1 M from rfl,Int.toNat_natCast,←h.endE];exact hl.part
theorem I7.mem (h:I7 M) (y:Ob):y∈D8 (O5 M)↔∃ a,Z7 M a∧y=D4 (O9 M) (N6 M a):=by
 obtain⟨p1,p2⟩:=h.parts;unfold D8;rw[p1,p2,List.nil_append,List.map_map,Zg];constructor
 ·rintro⟨p,hp,rfl⟩;exact⟨p.1,B2p hp,by rw[C3a h.good hp];rfl⟩
 ·rintro⟨a,ha,rfl⟩;exact⟨_,A7h ha,rfl⟩
theorem I7.starts (h:I7 M) {a:Nat} (ha:Z7 M a):F8 (C6 (O5 M)) (N6 M a:Int)=true:=by
 rw[A9k];exact Zg.2 ⟨_,(h.mem _).2 ⟨a,ha,rfl⟩,rfl⟩
theorem I7.fldB_ (h:I7 M) {u:Int} (hf:D0 (C6 M) u=true):D0 (C6 (O5 M)) (J9 M u)=true:=by
 unfold J9;rcases h.fw hf with⟨q,e⟩|⟨a,k1,k2,k3,k4,-,⟨d,e⟩|⟨d,e⟩⟩
 ·rw[e];show D0 _ u=true;unfold D0 at hf ⊢;rcases q with q|q
  ·rw[if_neg q] at hf ⊢;exact hf
  ·subst q;simp[C7]
 ·rw[e];show D0 _ (D3 (N6 M a))=true;have ht:=h.to_in d;have hp:=B2g (N6 M a:Int) ⟨by omega,by omega⟩;unfold D0;rw[if_pos (show C7 (D3 (N6 M a:Int))=0 from (A5v _).2.2),hp,h.starts d];simp
 ·rw[e];show D0 _ 2=true;simp[D0,C7]
theorem I7.notYoung (h:I7 M) {u:Int} (hf:D0 (C6 M) u=true):J5 (O5 M) (J9 M u)=false:=by
 unfold J9;rcases h.fw hf with⟨q,e⟩|⟨a,k1,k2,k3,k4,-,⟨d,e⟩|⟨d,e⟩⟩
 ·rw[e];show J5 _ u=false;unfold J5;rcases q with q|q
  ·have:(C7 u==0)=false:=by simpa using q
   rw[this];rfl
  ·subst q;simp
 ·rw[e];show J5 _ (D3 (N6 M a))=false;have ht:=h.to_in d;have hp:=B2g (N6 M a:Int) ⟨by omega,by omega⟩;unfold J5 L4;rw[hp];have:decide (2*(O5 M).half≤(N6 M a:Int))=true:=decide_eq_true (by
   show 2*M.half≤_;have:=ht.1;unfold D1 at this;omega)
  rw[this];simp
 ·rw[e];show J5 _ 2=false;simp[J5,C7]
theorem I7.ids_in (h:I7 M):∀ x∈M.ids,B6u (C6 M) x:=fun x hx=>(((A4t _ _ _).1 (K5 h.good).2.2.2.2.2).1 x hx).1
theorem I7.chkN (h:I7 M):Go.Proofs.YtelhoppfidibiaaGreatDoor.chk (O5 M)=0:=by
 have hg:=K5 h.good;have hsh:=h.shpN;obtain⟨p1,p2⟩:=h.parts;have hob:M9 (O5 M) (L3 (O5 M))=true:=by
  have hall:(D8 (O5 M)).all (L3 (O5 M))=true:=by
   rw[Zb];intro y hy;obtain⟨a,ha,rfl⟩:=(h.mem y).1 hy;obtain⟨d1,d2,d3,d4,d5⟩:=h.hdN ha;unfold L3;have ew:(D4 (O9 M) (N6 M a)).w=A6 (O9 M) (N6 M a):=rfl;rw[ew,d3,d4];rfl
  unfold D8 at hall;rw[List.all_append,Za] at hall;unfold M9;rw[hall.1,hall.2,p1,p2];rfl
 have hro:J6 (C6 (O5 M)) (O5 M).roots=true:=by
  unfold J6;rw[Zb];intro v hvm;obtain⟨u,hu,rfl⟩:=Zg.1 (show v∈M.roots.map (J9 M) from hvm);refine h.fldB_ ?_;have:=hg.2.2.1;unfold J6 at this;rw[Zb] at this;exact this u hu
 have hwk:J6 (C6 (O5 M)) (O5 M).weak=true:=by
  unfold J6;rw[Zb];intro v hvm;obtain⟨u,hu,rfl⟩:=Zg.1 (show v∈M.weak.map (J9 M) from hvm);refine h.fldB_ ?_;have:=hg.2.2.2.1;unfold J6 at this;rw[Zb] at this;exact this u hu
 have hfw:∀ a,Z7 M a→D2 (B3 (A6 (O9 M) (N6 M a)))=false→∀ k,k<A9 (O9 M) (N6 M a)→∃ u,D0 (C6 M) u=true∧A6 (O9 M) (N6 M a+1+k)=J9 M u:=fun a ha hr k hk=>by
  obtain⟨d1,d2,d3,d4,d5⟩:=h.hdN ha;rw[d2] at hr;rw[d5] at hk;exact⟨_,(h.fld_in ha hr hk).1,h.slid.fld _ (A7h ha) hr k hk⟩
 have hfl:(D8 (O5 M)).all (R2 (O5 M) (C6 (O5 M)))=true:=by
  rw[Zb];intro y hy;obtain⟨a,ha,rfl⟩:=(h.mem y).1 hy;unfold R2
  cases hq:D2 (B3 (D4 (O9 M) (N6 M a)).w) with
  | true=>rfl
  | false =>
   rw[Bool.false_or];unfold J6 flds;rw[Zb];intro v hvm;obtain⟨k,hk,rfl⟩:=Zg.1 hvm;obtain⟨u,hu,e⟩:=hfw a ha hq k (Zk.1 hk);have e2:A6 (O5 M).W ((D4 (O9 M) (N6 M a)).a+1+k)=J9 M u:=e;rw[e2];exact h.fldB_ hu
 have hid:T0 (C6 (O5 M)) [] (O5 M).ids=true:=by
  have h0:=(A4t _ _ _).1 hg.2.2.2.2.2;have hcor:∀ x∈M.ids,(Q0 M x.1).2=true→∃ a:Nat,C9 x.1=(a:Int)∧Z7 M a∧(Q0 M x.1).1=D3 (N6 M a)∧C7 x.1=0:=fun x hx hl=>by
   obtain⟨g1,g2,g3,g4⟩:=(h0.1 x hx).1;have hf:D0 (C6 M) x.1=true:=by unfold D0;rw[if_pos g1,g3];simp
   rcases h.fw hf with⟨q,e⟩|⟨a,k1,k2,k3,k4,-,⟨d,e⟩|⟨d,e⟩⟩
   ·rcases q with q|q
    ·exact absurd g1 q
    ·exact absurd q g2
   ·exact⟨a,k3,d,by rw[e],k1⟩
   ·rw[e] at hl;cases hl
  rw[A4t];show (∀ x∈M.ids.filterMap _,_)∧(M.ids.filterMap _).Pairwise A6g;constructor
  ·intro y hy;obtain⟨x,hx,e⟩:=List.mem_filterMap.1 hy
   split at e
   ·rename_i hl;injection e with e;subst e;obtain⟨a,q1,q2,q3,q4⟩:=hcor x hx hl;have ht:=h.to_in q2;refine⟨⟨?_,?_,?_,(h0.1 x hx).1.2.2.2⟩,fun z hz=>by simp at hz⟩
    ·show C7 (Q0 M x.1).1=0;rw[q3];exact (A5v _).2.2
    ·show (Q0 M x.1).1≠0;rw[q3];unfold D3;omega
    ·show F8 _ (C9 (Q0 M x.1).1)=true;rw[q3,B2g _ ⟨by omega,by omega⟩];exact h.starts q2
   ·cases e
  ·refine List.Pairwise.filterMap _ (S:=A6g) (fun p q hpq b hb b' hb'=>?_) (List.Pairwise.imp_of_mem (S:=fun p q=>p∈M.ids∧q∈M.ids∧A6g p q) (fun hp hq' hpq=>⟨hp,hq',hpq⟩) h0.2);obtain⟨hp,hq,hap⟩:=hpq
   split at hb
   ·rename_i hl
    split at hb'
    ·rename_i hl';injection hb with hb;injection hb' with hb';subst hb hb';obtain⟨a,q1,q2,q3,q4⟩:=hcor p hp hl;obtain⟨a',r1,r2,r3,r4⟩:=hcor q hq hl';refine⟨fun e=>?_,hap.2⟩;simp only at e;rw[q3,r3] at e;have t1:=h.to_in q2;have t2:=h.to_in r2;have ee:N6 M a=N6 M a':=by unfold D3 at e;omega
     have ea:=h.inj q2 r2 ee;subst ea;apply hap.1;unfold C9 at q1 r1;unfold C7 at q4 r4;omega
    ·cases hb'
   ·cases hb
 have hcd:A0p (O5 M)=true:=by
  unfold A0p;rw[Zb];intro y hy;obtain⟨a,ha,rfl⟩:=(h.mem y).1 hy;unfold A1r
  cases hq:D2 (B3 (D4 (O9 M) (N6 M a)).w) with
  | true=>rfl
  | false =>
   rw[Bool.false_or];unfold A2v;rw[Zb];intro k hk;obtain⟨u,hu,e⟩:=hfw a ha hq k (Zk.1 hk);unfold crd;have e2:A6 (O5 M).W ((D4 (O9 M) (N6 M a)).a+1+k)=J9 M u:=e;rw[e2,h.notYoung hu];simp
 have hgood:goodB (O5 M)=true:=by
  unfold goodB;rw[C2q hsh,hob,hro,hwk,hfl,hid];rfl
 unfold Go.Proofs.YtelhoppfidibiaaGreatDoor.chk;rw[hgood,hcd];rfl
theorem I7.kept (h:I7 M):B9e true M (O5 M) (Q0 M) (Z7 M) (N6 M):=by
 have hg:=K5 h.good;have hfb:∀ {l:List Int},J6 (C6 M) l=true→∀ i,i<l.length→D0 (C6 M) (l.getD i 0)=true:=fun hl i hi=>A4d hl hi
 refine⟨h.morph,h.slid.len,by show _=(M.roots.map (J9 M)).length;rw[Ze],fun i hi=>?_,?_,rfl,fun u hu hy=>h.cor hu hy,fun u hu hy=>?_,fun _ u hu hy hp=>?_,h.good,(L8 h.chkN).1⟩
 ·have e:(O5 M).roots.getD i 0=J9 M (M.roots.getD i 0):=by
   show (M.roots.map (J9 M)).getD i 0=_;simp[Zd,hi]
  rw[e];have hf:=hfb hg.2.2.1 i hi;refine h.cor hf (h.fw_in hf (F0l M _ ?_));rw[Zd,List.getElem?_eq_getElem hi];exact List.getElem_mem hi
 ·show M.weak.map (J9 M)=_;refine List.map_congr_left fun u hu=>?_
  have hf:D0 (C6 M) u=true:=by
   have:=hg.2.2.2.1;unfold J6 at this;rw[Zb] at this;exact this u hu
  unfold J9;rcases h.fw hf with⟨q,e⟩|⟨a,k1,k2,k3,k4,-,⟨d,e⟩|⟨d,e⟩⟩<;>rw[e]<;>rfl
 ·rcases h.fw hu with⟨q,e⟩|⟨a,k1,k2,k3,k4,-,⟨d,e⟩|⟨d,e⟩⟩
  ·rw[e] at hy;cases hy
  ·rw[e] at hy;cases hy
  ·refine⟨by unfold A1j;unfold C7 at k1;simp[k1,k2],?_⟩;unfold A8i;rw[k4]
   cases q:F8 (G9 (F5 M)) (a:Int) with
   | false=>simp
   | true =>
    obtain⟨o,ho,e2⟩:=B1y.1 q;exact absurd (Zg.2 ⟨o,ho,by omega⟩) d
 ·rcases h.fw hu with⟨q,e⟩|⟨a,k1,k2,k3,k4,-,⟨d,e⟩|⟨d,e⟩⟩
  ·unfold A1j at hp;simp only[Za,decide_eq_true_eq] at hp;unfold C7 at q;omega
  ·unfold A8i;rw[k4];have:F8 (G9 (F5 M)) (a:Int)=true:=by
    obtain⟨o,ho,e2⟩:=Zg.1 d;exact B1y.2 ⟨o,ho,by omega⟩
   rw[this];simp
  ·rw[e] at hy;cases hy
end
theorem E5a {M N:A7} {Dom:Nat→Prop} {f:Nat→Nat} (hm:A0m M.W N.W Dom f) (hl:N.W.length=M.W.length) (hr:M.roots.length=N.roots.length) (hc:∀ i,i<M.roots.length→Q6 f Dom (M.roots.getD i 0) (N.roots.getD i 0)):O4 N=O4 M:=by
 obtain⟨e1,e2⟩:=D0y hm hl hr hc;unfold O4;rw[e1,List.map_map];congr 1;refine List.map_congr_left fun o ho=>?_
 obtain⟨d1,d2⟩:=e2 o ho;show 1+(D4 N.W (f o.a)).n=1+o.n;rw[E8h];have:o.n=A9 M.W o.a:=by rw[d2];rfl
 rw[this];unfold A9;rw[hm.size o.a d1]
section
variable {M:A7}
end
end Go.Proofs.YtelhoppfidibiaaGreatDoor
