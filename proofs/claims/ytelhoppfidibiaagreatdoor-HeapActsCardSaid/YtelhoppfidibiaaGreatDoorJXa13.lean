/- A memory with more cards marked: plainly. -/
import Derived.Test.YtelhoppfidibiaaGreatDoorJXa12
set_option linter.unusedSimpArgs false
set_option linter.unusedVariables false
set_option maxHeartbeats 1000000
namespace Go.Proofs.YtelhoppfidibiaaGreatDoor
open Go.RowKit
open Bool renaming and_eq_true→Za,false_or→Zb
open Int renaming toNat_natCast→Zc,toNat_of_nonneg→Zd
open List renaming all_eq_true→Ze,filter_append→Zf,filter_cons→Zg,filter_nil→Zh,getD_eq_getElem?_getD→Zi,getElem?_append_left→Zj,getElem?_append_right→Zk,getElem?_set_ne→Zl,getElem?_set_self→Zm,map_append→Zn,map_cons→Zo,map_map→Zp,map_nil→Zq,mem_append→Zr,mem_cons→Zs,mem_filter→Zt,mem_map→Zu,mem_map_of_mem→Zv,mem_singleton→Zw,nodup_append→Zx,nodup_cons→Zy,pairwise_map→Zz,sum_cons→Ya
def B8u (M:A7) (C:List Bool):A7:={M with cards:=C}
def D3v (C:List Bool) (M:A7):Prop:=C.length=M.cards.length∧∀ j,M.cards.getD j false=true→C.getD j false=true
theorem A2z {M:A7} {x:Ob} (hs:G2 M) (hx:x∈D8 M):x.a+1+x.n≤M.W.length∧x.w=A6 M.W x.a∧P7 x.w=true:=by
 have h1:=hs.h1;have h2:=hs.t2;have h3:=hs.p2;have h4:=hs.w;have h5:=hs.base;have h6:=hs.o2;have h7:=hs.t1;have h8:=hs.p1;rcases B4m hx with h|h
 ·have:=h.to;exact⟨by omega,h.w,h.hd⟩
 ·have:=h.to;exact⟨by omega,h.w,h.hd⟩
theorem A3u {M:A7} (hs:G2 M):M.W.length≤196608:=by have h1:=hs.w;have h2:=hs.h2;have h3:=hs.o2;omega
theorem E1g (C:List Bool) (i j:Nat) (h:C.getD j false=true):(C.set i true).getD j false=true:=by
 rw[Zi] at h ⊢;rw[List.getElem?_set]
 split
 ·rename_i e;subst e
  split
  ·rfl
  ·rename_i hl;rw[List.getElem?_eq_none (by omega)] at h;simp at h
 ·exact h
theorem B6p {M:A7} (hok:M.Ok) (hs:G2 M) {x:Ob} (hx:x∈D8 M):(x.n:Int)=B5 x.w:=by
 obtain⟨_,m2,_⟩:=A2z hs hx;have h00:=(Z9 x.w (by rw[m2];exact (O6 hok _).1)).2.2.2.2.2.2;unfold Ob.n;omega
theorem B1t {M:A7} (h:(D8 M).all (R2 M (C6 M))=true) {x:Ob} (hx:x∈D8 M) (hr:D2 (B3 x.w)=false) (j:Nat) (hj:j<x.n):D0 (C6 M) (A6 M.W (x.a+1+j))=true:=by
 rw[Ze] at h;have:=h x hx;unfold R2 at this;rw[hr,Zb] at this;exact C5o this j hj
theorem A2r (W:List Int) (j:Nat) (v:Int) (i:Nat) (h:i≠j):A6 (W.set j v) i=A6 W i:=by
 unfold A6;rw[Zi,Zi,Zl (Ne.symm h)]
theorem A6q (W:List Int) (j:Nat) (v:Int) (h:j<W.length):A6 (W.set j v) j=v:=by
 unfold A6;rw[Zi,Zm h];rfl
theorem C2c (W:List Int) (to j:Nat) (v:Int):∀ f a:Nat,(objs W to f a).2=true→(∀ o∈(objs W to f a).1,o.a≠j)→objs (W.set j v) to f a=objs W to f a
 | 0,a,_,_=>rfl
 | f+1,a,h,hn=>by
  unfold objs at h hn ⊢;by_cases h1:a<to
  ·rw[if_pos h1] at h hn ⊢;rw[if_pos h1];by_cases h2:(P7 (A6 W a)&&decide (a+1+(B5 (A6 W a)).toNat≤to))=true
   ·rw[if_pos h2] at h hn ⊢;have ha:a≠j:=hn ⟨a,A6 W a⟩ (by simp);rw[A2r W j v a ha,if_pos h2,C2c W to j v f _ h (fun o ho=>hn o (by simp[ho]))]
   ·rw[if_neg h2] at h;cases h
  ·rw[if_neg h1,if_neg h1]
theorem C9w (W:List Int) (to:Nat):∀ f a:Nat,(objs W to f a).1.Pairwise fun x y=>x.a+1+x.n≤y.a
 | 0,a=>by simp[objs]
 | f+1,a=>by
  unfold objs
  split
  ·split
   ·rw[List.pairwise_cons];refine⟨fun y hy=>?_,C9w W to f _⟩;have:=(C2b W to f _ y hy).lo;unfold Ob.n;omega
   ·exact List.Pairwise.nil
  ·exact List.Pairwise.nil
theorem D0m {W:List Int} {a to:Nat} {x y:Ob} (hx:x∈(part W a to).1) (hy:y∈(part W a to).1) (k:Nat) (hk:k<x.n):y.a≠x.a+1+k:=fun e=>by
 have hp:=C9w W to (to-a) a;unfold part at hx hy;generalize (objs W to (to-a) a).1=l at hx hy hp
 induction l with
 | nil=>cases hx
 | cons z l ih =>
  rw[List.pairwise_cons] at hp;rcases Zs.1 hx with h1|h1
  ·rcases Zs.1 hy with h2|h2
   ·rw[h1,h2] at e;omega
   ·have:=hp.1 y h2;rw[h1] at e;rw[h1] at hk;omega
  ·rcases Zs.1 hy with h2|h2
   ·have:=hp.1 x h1;rw[h2] at e;omega
   ·exact ih h1 h2 hp.2
theorem C3y {M:A7} (hs:G2 M) {x y:Ob} (hx:x∈D8 M) (hy:y∈D8 M) (k:Nat) (hk:k<x.n):y.a≠x.a+1+k:=by
 have h1:=hs.h1;have h2:=hs.t2;have h5:=hs.base;have h7:=hs.t1;unfold D8 at hx hy;rcases Zr.1 hx with hx|hx
 ·rcases Zr.1 hy with hy|hy
  ·exact D0m hx hy k hk
  ·have a1:=(A7a hx).to;have a2:=(A7a hy).lo;omega
 ·rcases Zr.1 hy with hy|hy
  ·have a1:=(A7a hx).lo;have a2:=(A7a hy).to;omega
  ·exact D0m hx hy k hk
theorem B0v {M:A7} (h:M9 M (L3 M)=true):(partN M).2=true∧(partO M).2=true:=by
 simp only[M9,Za] at h;exact⟨h.1.1,h.2.1⟩
theorem D0l {M:A7} (h:M9 M (L3 M)=true) (j:Nat) (v:Int) (hj:∀ y∈D8 M,y.a≠j):partN (R5 M j v)=partN M∧partO (R5 M j v)=partO M:=by
 obtain⟨h1,h2⟩:=B0v h;have hb:(R5 M j v).base=M.base:=rfl;constructor
 ·unfold partN part at h1 ⊢;exact C2c M.W _ j v _ _ h1 (fun o ho=>hj o (List.mem_append_left _ (by unfold partN part;exact ho)))
 ·unfold partO part at h2 ⊢;exact C2c M.W _ j v _ _ h2 (fun o ho=>hj o (List.mem_append_right _ (by unfold partO part;exact ho)))
theorem D1x (M:A7) (j:Nat) (v:Int):(J3 M j v).W=M.W.set j v:=by unfold J3;split<;>rfl
theorem B0y (M:A7) (j:Nat) (v:Int):(J3 M j v).half=M.half∧(J3 M j v).old=M.old∧(J3 M j v).card=M.card∧(J3 M j v).used=M.used∧(J3 M j v).top=M.top∧(J3 M j v).oldTop=M.oldTop∧(J3 M j v).roots=M.roots∧(J3 M j v).weak=M.weak∧(J3 M j v).ids=M.ids:=by
 unfold J3;split<;>exact⟨rfl,rfl,rfl,rfl,rfl,rfl,rfl,rfl,rfl⟩
theorem D1y (M:A7) (j:Nat) (v:Int):D3v (J3 M j v).cards M:=by
 unfold J3
 split
 ·exact⟨by unfold A6p R5;simp,fun i hi=>E1g M.cards _ i hi⟩
 ·exact⟨rfl,fun _ h=>h⟩
theorem F6g (M:A7) (j:Nat) (v:Int):J3 M j v=B8u (R5 M j v) (J3 M j v).cards:=by
 unfold J3;split<;>rfl
theorem E0k {M:A7} (j:Nat) (v:Int) (st:List Int) (y:Ob) (hf:J6 st (flds M y)=true) (hv:D0 st v=true) (hj:j<M.W.length):J6 st (flds (R5 M j v) y)=true:=by
 unfold J6 at hf ⊢;rw[Ze] at hf ⊢;intro z hz;obtain⟨i,hi,rfl⟩:=Zu.1 hz;have e:(R5 M j v).W=M.W.set j v:=rfl;rw[e];by_cases h:y.a+1+i=j
 ·rw[h,A6q _ _ _ hj];exact hv
 ·rw[A2r _ _ _ _ h];exact hf _ (Zu.2 ⟨i,hi,rfl⟩)
theorem F6i {M:A7} (hok:M.Ok) (h:chk M=0) {x:Ob} (hx:x∈D8 M) (k:Nat) (hk:k<x.n) (v:Int) (hv:D0 (C6 M) v=true):chk (J3 M (x.a+1+k) v)=0:=by
 obtain⟨hg,hcm⟩:=L8 h;obtain⟨hs,hob,hr,hw,hfo,hid⟩:=K5 hg;obtain⟨m1,m2,m3⟩:=A2z hs hx;have hj:x.a+1+k<M.W.length:=by omega
 have hap:∀ y∈D8 M,y.a≠x.a+1+k:=fun y hy=>C3y hs hx hy k hk
 obtain⟨pN,pO⟩:=D0l hob (x.a+1+k) v hap;have hold:L4 M ((x.a+1+k:Nat):Int)=L4 M (x.a:Int):=by
  have h1:=hs.h1;have h2:=hs.t2;have h5:=hs.base;have h7:=hs.t1;unfold L4;rcases B4m hx with g|g
  ·have a1:=g.to;rw[decide_eq_false (by omega),decide_eq_false (by omega)]
  ·have a1:=g.lo;rw[decide_eq_true (by omega),decide_eq_true (by omega)]
 have hmore:=D1y M (x.a+1+k) v;have hcard:L4 M ((x.a+1+k:Nat):Int)=true→J5 M v=true→A0e (J3 M (x.a+1+k) v) ((x.a+1+k:Nat):Int)=true:=fun h1 h2=>by
  have e:J3 M (x.a+1+k) v=A6p (R5 M (x.a+1+k) v) ((x.a+1+k:Nat):Int):=by unfold J3;rw[h1,h2];rfl
  have hin:2*M.half≤((x.a+1+k:Nat):Int):=of_decide_eq_true h1;have:=hs.w;obtain⟨i0,i1⟩:=hs.card ((x.a+1+k:Nat):Int) hin (by omega);rw[e];have hc:A1q (R5 M (x.a+1+k) v) ((x.a+1+k:Nat):Int)<M.cards.length:=by unfold A1q;show ((((x.a+1+k:Nat):Int)-2*M.half)/M.card).toNat<_;omega
  show (M.cards.set (A1q (R5 M (x.a+1+k) v) ((x.a+1+k:Nat):Int)) true).getD (A1q (R5 M (x.a+1+k) v) ((x.a+1+k:Nat):Int)) false=true;rw[Zi,Zm hc];rfl
 have eW:=D1x M (x.a+1+k) v;have eq:=F6g M (x.a+1+k) v;generalize J3 M (x.a+1+k) v=N at *
 have eA:D8 N=D8 M:=by
  rw[eq];show (partN (R5 M (x.a+1+k) v)).1++(partO (R5 M (x.a+1+k) v)).1=_;rw[pN,pO];rfl
 have eS:C6 N=C6 M:=by unfold C6;rw[eA]
 have eB:M9 N (L3 N)=true:=by
  rw[eq];show M9 (R5 M (x.a+1+k) v) (L3 M)=true;unfold M9 at hob ⊢;rw[pN,pO];exact hob
 have eH:P1 N=true:=by
  have e1:P1 M=true:=by unfold goodB at hg;simp only[Za] at hg;exact hg.1.1.1.1.1
  rw[eq];unfold P1 at e1 ⊢;have l1:(B8u (R5 M (x.a+1+k) v) N.cards).W.length=M.W.length:=by unfold B8u R5;simp
  have l2:(B8u (R5 M (x.a+1+k) v) N.cards).cards.length=M.cards.length:=hmore.1;rw[l1,l2];exact e1
 have eF:(D8 N).all (R2 N (C6 N))=true:=by
  rw[eA,eS,Ze];rw[Ze] at hfo;intro y hy;have h1:=hfo y hy;unfold R2 at h1 ⊢
  cases hraw:D2 (B3 y.w) with
  | true=>rfl
  | false =>
   rw[hraw,Zb] at h1;rw[Zb,eq];exact E0k (x.a+1+k) v _ y h1 hv hj
 have eC:A0p N=true:=by
  unfold A0p at hcm ⊢;rw[eA,Ze];rw[Ze] at hcm;intro y hy;have h1:=hcm y hy;unfold A1r at h1 ⊢
  cases hraw:D2 (B3 y.w) with
  | true=>rfl
  | false =>
   rw[hraw,Zb] at h1;rw[Zb];unfold A2v at h1 ⊢;rw[Ze] at h1 ⊢;intro i hi;have h2:=h1 i hi;have o1:L4 N (y.a:Int)=L4 M (y.a:Int):=by rw[eq];rfl
   have y1:∀ z,J5 N z=J5 M z:=fun z=>by rw[eq];rfl
   unfold crd at h2 ⊢;rw[o1,y1,eW]
   cases hq:(L4 M (y.a:Int)&&J5 M (A6 (M.W.set (x.a+1+k) v) (y.a+1+i))) with
   | false=>rfl
   | true =>
    rw[Za] at hq;by_cases hp:y.a+1+i=x.a+1+k
    ·have e2:((y.a:Int)+1+i)=((x.a+1+k:Nat):Int):=by omega
     rw[hp,A6q _ _ _ hj] at hq;have hyo:L4 M ((x.a+1+k:Nat):Int)=true:=by
      have:=of_decide_eq_true hq.1;exact decide_eq_true (by omega)
     rw[e2,hcard hyo hq.2];rfl
    ·rw[A2r _ _ _ _ hp] at hq;rw[hq.1,hq.2] at h2;have h3:A0e M ((y.a:Int)+1+i)=true:=by simpa using h2
     have h4:A0e N ((y.a:Int)+1+i)=true:=by
      unfold A0e at h3 ⊢;have e5:(((y.a:Int)+1+i-2*N.half)/N.card).toNat=(((y.a:Int)+1+i-2*M.half)/M.card).toNat:=by rw[eq];rfl
      rw[e5];exact hmore.2 _ h3
     rw[h4];rfl
 have eR:N.roots=M.roots∧N.weak=M.weak∧N.ids=M.ids:=by rw[eq];exact⟨rfl,rfl,rfl⟩
 have eG:goodB N=true:=by
  unfold goodB;rw[eH,eB,eF,eS,eR.1,eR.2.1,eR.2.2,hr,hw,hid];rfl
 unfold chk;rw[eG,eC];rfl
structure A3n (M N:A7):Prop where
 half:N.half=M.half
 old:N.old=M.old
 card:N.card=M.card
 used:N.used=M.used
 top:N.top=M.top
 weak:N.weak=M.weak
 ids:N.ids=M.ids
 lenW:N.W.length=M.W.length
 lenC:N.cards.length=M.cards.length
theorem A3n.refl (M:A7):A3n M M:=⟨rfl,rfl,rfl,rfl,rfl,rfl,rfl,rfl,rfl⟩
theorem A3n.then_ {M N K:A7} (h:A3n M N) (k:N.Like K):A3n M K :=
 ⟨k.half.trans h.half,k.old.trans h.old,k.card.trans h.card,k.used.trans h.used,k.top.trans h.top,k.weak.trans h.weak,k.ids.trans h.ids,k.lenW.trans h.lenW,k.lenC.trans h.lenC⟩
theorem A3n.shp {M N:A7} (h:A3n M N) (hs:G2 M) (p:0≤N.oldTop∧N.oldTop≤N.old):G2 N :=
 ⟨by rw[h.half];exact hs.h1,by rw[h.half];exact hs.h2,by rw[h.old];exact hs.o1,by rw[h.old];exact hs.o2,by rw[h.card];exact hs.c1,by rw[h.card];exact hs.c2,by rw[h.lenW,h.half,h.old];exact hs.w,
  by rw[h.used];exact hs.u1,by rw[h.used];exact hs.u2,by rw[h.top];exact hs.t1,by rw[h.top,h.half];exact hs.t2,p.1,p.2,by rw[h.lenC,h.old,h.card];exact hs.cl⟩
theorem A3n.stays {M N:A7} (h:A3n M N) (a:Int):stays N a=stays M a:=by unfold Go.Proofs.YtelhoppfidibiaaGreatDoor.stays J5 L4;rw[h.half]
theorem A3n.young {M N:A7} (h:A3n M N) (a:Int):J5 N a=J5 M a:=by unfold J5 L4;rw[h.half]
structure J8 (M:A7) (ten:Int):Prop where
 ok:M.Ok
 chk:chk M=0
 ten:0≤ten∧ten≤15
 room:M.top≤M.old-M.oldTop
def nbM (M:A7):Nat:=((1-M.used)*M.half).toNat
def D1 (M:A7):Nat:=(2*M.half).toNat
theorem G2.nums {M:A7} (hs:G2 M):∃ h:Nat,M.half=h∧D1 M=2*h∧((M.base=0∧nbM M=h∧M.used=0)∨(M.base=h∧nbM M=0∧M.used=1))∧1≤h∧h≤65536∧M.W.length=2*h+M.old.toNat∧M.top.toNat≤h∧M.oldTop.toNat≤M.old.toNat∧M.old.toNat≤65536∧(M.old.toNat:Int)=M.old∧(M.top.toNat:Int)=M.top∧(M.oldTop.toNat:Int)=M.oldTop:=by
 obtain⟨h1,h2,o1,o2,_,_,w,u1,u2,t1,t2,p1,p2,_⟩:=hs;refine⟨M.half.toNat,by omega,by unfold D1;omega,?_,by omega,by omega,by omega,by omega,by omega,by omega,by omega,by omega,by omega⟩;have hu:M.used=0∨M.used=1:=by omega
 unfold nbM A7.base;rcases hu with e|e<;>rw[e]
 ·left;omega
 ·right;omega
section
variable {M0:A7} {ten:Int}
theorem J8.shp (h:J8 M0 ten):G2 M0:=(K5 (L8 h.chk).1).1
theorem J8.objs (h:J8 M0 ten):M9 M0 (L3 M0)=true:=(K5 (L8 h.chk).1).2.1
theorem J8.laidN (h:J8 M0 ten):N7 M0.W M0.base ((partN M0).1.map (·.a)) (M0.base+M0.top.toNat):=B4g (B0v h.objs).1 (by omega)
theorem J8.laidO (h:J8 M0 ten):N7 M0.W (D1 M0) ((partO M0).1.map (·.a)) (D1 M0+M0.oldTop.toNat):=B4g (B0v h.objs).2 (by unfold D1;omega)
theorem J8.inN (h:J8 M0 ten) {x:Ob} (hx:x∈(partN M0).1):x.w=A6 M0.W x.a∧P7 (A6 M0.W x.a)=true∧M0.base≤x.a∧x.a+1+A9 M0.W x.a≤M0.base+M0.top.toNat∧G5 (A6 M0.W x.a)=0:=by
 have hi:=A7a (show x∈(part M0.W M0.base (M0.base+M0.top.toNat)).1 from hx);have ho:=h.objs;simp only[M9,Za,Ze] at ho;have hm:=ho.1.2 x hx;simp only[L3,Za,beq_iff_eq] at hm;refine⟨hi.w,hi.w ▸ hi.hd,hi.lo,?_,by rw[←hi.w];exact hm.1⟩;have:=hi.to;unfold Ob.n at this;unfold A9;rw[←hi.w];exact this
theorem J8.inO (h:J8 M0 ten) {x:Ob} (hx:x∈(partO M0).1):x.w=A6 M0.W x.a∧P7 (A6 M0.W x.a)=true∧D1 M0≤x.a∧x.a+1+A9 M0.W x.a≤D1 M0+M0.oldTop.toNat∧G5 (A6 M0.W x.a)=0∧F4 (A6 M0.W x.a)=0:=by
 have hi:=A7a (show x∈(part M0.W (2*M0.half).toNat ((2*M0.half).toNat+M0.oldTop.toNat)).1 from hx);have ho:=h.objs;simp only[M9,Za,Ze] at ho;have hm:=ho.2.2 x hx;have hlo:L4 M0 (x.a:Int)=true:=by
  unfold L4;have:=hi.lo;exact decide_eq_true (by omega)
 simp only[L3,Za,beq_iff_eq,hlo,Bool.not_true,Bool.or_false] at hm;refine⟨hi.w,hi.w ▸ hi.hd,hi.lo,?_,by rw[←hi.w];exact hm.1,by rw[←hi.w];exact hm.2⟩;have:=hi.to;unfold Ob.n at this;unfold A9 D1;rw[←hi.w];exact this
end
def K9 (M0:A7) (mv:List (Int × Int)) (a b:Nat):Prop:=(a=b∧a∈(partO M0).1.map (·.a))∨((a:Int),(b:Int))∈mv
def A3o (C:D9) (R:Nat→Prop) (i:Nat):Prop:=R i∨∃ b∈C.todo,b.toNat+1≤i∧i<b.toNat+1+A9 C.M.W b.toNat
def B0r (ten w:Int):Int:=J7 (B3 w) (if ten≤F4 w then 0 else min 15 (F4 w+1)) (G5 w) (B5 w)
theorem B4l {ten w:Int} (h0:0≤w) (h:P7 w=true):P7 (B0r ten w)=true∧B3 (B0r ten w)=B3 w∧F4 (B0r ten w)=(if ten≤F4 w then 0 else min 15 (F4 w+1))∧G5 (B0r ten w)=G5 w∧B5 (B0r ten w)=B5 w:=by
 obtain⟨k0,k1,a0,a1,m0,m1,z0⟩:=Z9 w h0;have z1:=((A1v w).1 h).2.2;exact A1t _ _ _ _ ⟨k0,k1⟩ (by split<;>omega) ⟨m0,m1⟩ ⟨z0,z1⟩
def LNl (M0:A7) (mv:List (Int × Int)):List Nat:=(mv.filter fun p=>decide (p.2<2*M0.half)).map fun p=>p.2.toNat
def LOl (M0:A7) (mv:List (Int × Int)):List Nat:=(mv.filter fun p=>decide (2*M0.half≤p.2)).map fun p=>p.2.toNat
def LFl (M0:A7) (mv:List (Int × Int)):List Int:=(mv.filter fun p=>!D2 (B3 (A6 M0.W p.1.toNat))).map fun p=>p.2
structure I8 (M0:A7) (ten:Int) (C:D9) (R:Nat→Prop) (cl:Bool) (D:List Int):Prop where
 like:A3n M0 C.M
 ok:C.M.Ok
 tenE:C.ten=ten
 base:C.base=(nbM M0:Int)
 top0:0≤C.top
 oldT:M0.oldTop≤C.M.oldTop
 tot:C.top+(C.M.oldTop-M0.oldTop)=(((C.mv.map fun p=>1+A9 M0.W p.1.toNat).sum:Nat):Int)
 src:∀ i,M0.base≤i→i<M0.base+M0.top.toNat→A6 C.M.W i=A6 M0.W i
 keys:∀ p∈C.mv,∃ x∈(partN M0).1,p.1=(x.a:Int)
 nodup:(C.mv.map fun p=>p.1.toNat).Nodup
 vals:∀ p∈C.mv,0≤p.2
 side:∀ p∈C.mv,(2*M0.half≤p.2↔ten≤F4 (A6 M0.W p.1.toNat))
 head:∀ p∈C.mv,A6 C.M.W p.2.toNat=B0r ten (A6 M0.W p.1.toNat)
 layN:N7 C.M.W (nbM M0) (LNl M0 C.mv) (nbM M0+C.top.toNat)
 layO:N7 C.M.W (D1 M0+M0.oldTop.toNat) (LOl M0 C.mv) (D1 M0+C.M.oldTop.toNat)
 hdO:∀ x∈(partO M0).1,A6 C.M.W x.a=A6 M0.W x.a
 fld:∀ a b,K9 M0 C.mv a b→∀ k,k<A9 M0.W a →
  (D2 (B3 (A6 M0.W a))=true→A6 C.M.W (b+1+k)=A6 M0.W (a+1+k)) ∧
  (D2 (B3 (A6 M0.W a))=false→(A3o C R (b+1+k)→A6 C.M.W (b+1+k)=A6 M0.W (a+1+k))∧(¬A3o C R (b+1+k)→Fol M0 C.mv (A6 M0.W (a+1+k)) (A6 C.M.W (b+1+k))))
 crd:∀ a b,K9 M0 C.mv a b→∀ k,k<A9 M0.W a→D2 (B3 (A6 M0.W a))=false→D1 M0≤b→¬A3o C R (b+1+k)→J5 M0 (A6 C.M.W (b+1+k))=true→cl=true∧A0e C.M ((b+1+k:Nat):Int)=true
 todo:LFl M0 C.mv=D++C.todo
theorem B7r {α β:Type} {f:α→β}:∀ {l:List α},(l.map f).Nodup→∀ {p q:α},p∈l→q∈l→f p=f q→p=q
 | [],_,p,q,hp,_,_=>by simp at hp
 | c::l,h,p,q,hp,hq,e=>by
  rw[Zo,Zy] at h;rcases Zs.1 hp with e1|hp2
  ·rcases Zs.1 hq with e2|hq2
   ·rw[e1,e2]
   ·exact absurd (Zv (f:=f) hq2) (by rw[←e,e1];exact h.1)
  ·rcases Zs.1 hq with e2|hq2
   ·exact absurd (Zv (f:=f) hp2) (by rw[e,e2];exact h.1)
   ·exact B7r h.2 hp2 hq2 e
section
variable {M0:A7} {ten:Int} {C:D9} {R:Nat→Prop} {cl:Bool} {D:List Int}
theorem I8.keyN (h:I8 M0 ten C R cl D) {a b:Nat} (hp:((a:Int),(b:Int))∈C.mv):∃ x∈(partN M0).1,x.a=a:=by
 obtain⟨x,hx,e⟩:=h.keys _ hp;exact⟨x,hx,by simp only at e;omega⟩
theorem I8.nodupI (h:I8 M0 ten C R cl D):(C.mv.map (·.1)).Nodup:=by
 have hn:=h.nodup;unfold List.Nodup at hn ⊢;rw[Zz] at hn ⊢;exact hn.imp fun hab e=>hab (by rw[e])
theorem I8.olds (h:I8 M0 ten C R cl D) (hr:J8 M0 ten):N7 C.M.W (D1 M0) ((partO M0).1.map (·.a)++LOl M0 C.mv) (D1 M0+C.M.oldTop.toNat) :=
 (hr.laidO.congr fun b hb=>by
  obtain⟨x,hx,rfl⟩:=Zu.1 hb;exact h.hdO x hx).app h.layO
theorem I8.hd (h:I8 M0 ten C R cl D) (hr:J8 M0 ten) {a b:Nat} (hi:K9 M0 C.mv a b):P7 (A6 M0.W a)=true∧P7 (A6 C.M.W b)=true∧B3 (A6 C.M.W b)=B3 (A6 M0.W a)∧A9 C.M.W b=A9 M0.W a∧G5 (A6 C.M.W b)=0:=by
 rcases hi with⟨rfl,hm⟩|hm
 ·obtain⟨x,hx,rfl⟩:=Zu.1 hm;obtain⟨q1,q2,_,_,q5,_⟩:=hr.inO hx;have e:=h.hdO x hx;refine⟨q2,by rw[e];exact q2,by rw[e],by unfold A9;rw[e],by rw[e];exact q5⟩
 ·obtain⟨x,hx,rfl⟩:=h.keyN hm;obtain⟨q1,q2,_,_,q5⟩:=hr.inN hx;have e:=h.head _ hm;simp only[Zc] at e;obtain⟨r1,r2,_,r4,r5⟩:=B4l (ten:=ten) (O6 hr.ok x.a).1 q2;exact⟨q2,by rw[e];exact r1,by rw[e];exact r2,by unfold A9;rw[e,r5],by rw[e,r4];exact q5⟩
theorem I8.side_ (h:I8 M0 ten C R cl D) {a b:Nat} (hm:((a:Int),(b:Int))∈C.mv):(b∈LNl M0 C.mv∧(b:Int)<2*M0.half)∨(b∈LOl M0 C.mv∧2*M0.half≤(b:Int)):=by
 by_cases q:(b:Int)<2*M0.half
 ·exact Or.inl ⟨Zu.2 ⟨_,Zt.2 ⟨hm,decide_eq_true q⟩,by simp⟩,q⟩
 ·exact Or.inr ⟨Zu.2 ⟨_,Zt.2 ⟨hm,decide_eq_true (by simp only;omega)⟩,by simp⟩,by omega⟩
theorem I8.place (h:I8 M0 ten C R cl D) (hr:J8 M0 ten) {a b:Nat} (hi:K9 M0 C.mv a b) :
  (b∈LNl M0 C.mv∧nbM M0≤b∧b+1+A9 M0.W a≤nbM M0+C.top.toNat∧b<D1 M0)∨(b∈(partO M0).1.map (·.a)++LOl M0 C.mv∧D1 M0≤b∧b+1+A9 M0.W a≤D1 M0+C.M.oldTop.toNat):=by
 have hz:=(h.hd hr hi).2.2.2.1;rcases hi with⟨rfl,hm⟩|hm
 ·right;have:=(h.olds hr).mem a (Zr.2 (Or.inl hm));exact⟨Zr.2 (Or.inl hm),this.1,by omega⟩
 ·rcases h.side_ hm with⟨q1,q2⟩|⟨q1,q2⟩
  ·left;have:=h.layN.mem b q1;exact⟨q1,this.1,by omega,by unfold D1;omega⟩
  ·right;have:=(h.olds hr).mem b (Zr.2 (Or.inr q1));exact⟨Zr.2 (Or.inr q1),this.1,by omega⟩
theorem I8.totle (h:I8 M0 ten C R cl D) (hr:J8 M0 ten):C.top+(C.M.oldTop-M0.oldTop)≤M0.top∧C.mv.length≤M0.top.toNat:=by
 have h1:=h.tot;have h2:=B8j (fun b=>1+A9 M0.W b) (C.mv.map fun p=>p.1.toNat) ((partN M0).1.map (·.a)) h.nodup (fun k hk=>by
  obtain⟨p,hp,rfl⟩:=Zu.1 hk;obtain⟨x,hx,e⟩:=h.keys p hp;rw[e];exact Zu.2 ⟨x,hx,by simp⟩)
 have h3:=hr.laidN.sum;have h4:C.mv.length≤(C.mv.map fun p=>1+A9 M0.W p.1.toNat).sum:=by
  generalize C.mv=l
  induction l with
  | nil=>simp
  | cons p l ih=>rw[List.length_cons,Zo,Ya];omega
 have ht:=hr.shp.t1;rw[Zp] at h2;have e:(C.mv.map ((fun b=>1+A9 M0.W b)∘fun p=>p.1.toNat))=C.mv.map fun p=>1+A9 M0.W p.1.toNat:=rfl
 rw[e] at h2;omega
theorem I8.room (h:I8 M0 ten C R cl D) (hr:J8 M0 ten) {x:Ob} (hx:x∈(partN M0).1) (hn:K0 C.mv (x.a:Int)=none):C.top+(C.M.oldTop-M0.oldTop)+1+A9 M0.W x.a≤M0.top:=by
 have h1:=h.tot;have hnot:x.a∉C.mv.map fun p=>p.1.toNat:=fun hm=>by
  obtain⟨p,hp,e⟩:=Zu.1 hm;obtain⟨y,hy,e2⟩:=h.keys p hp;exact B4i hn p hp (by omega)
 have h2:=B8j (fun b=>1+A9 M0.W b) (x.a::C.mv.map fun p=>p.1.toNat) ((partN M0).1.map (·.a)) (Zy.2 ⟨hnot,h.nodup⟩) (fun k hk=>by
  rcases Zs.1 hk with rfl|hk
  ·exact Zv (f:=(·.a)) hx
  ·obtain⟨p,hp,rfl⟩:=Zu.1 hk;obtain⟨y,hy,e⟩:=h.keys p hp;rw[e];exact Zu.2 ⟨y,hy,by simp⟩)
 have h3:=hr.laidN.sum;have ht:=hr.shp.t1;rw[Zo,Ya,Zp] at h2;have e:(C.mv.map ((fun b=>1+A9 M0.W b)∘fun p=>p.1.toNat))=C.mv.map fun p=>1+A9 M0.W p.1.toNat:=rfl
 rw[e] at h2;omega
theorem I8.apart (h:I8 M0 ten C R cl D) (hr:J8 M0 ten) {a b a' b':Nat} (hi:K9 M0 C.mv a b) (hi':K9 M0 C.mv a' b') (hn:b≠b'):b+1+A9 M0.W a≤b'∨b'+1+A9 M0.W a'≤b:=by
 have z1:=(h.hd hr hi).2.2.2.1;have z2:=(h.hd hr hi').2.2.2.1;obtain⟨hh,e1,e2,e3,e4,e5,e6,e7,e8,e9,e10,e11,e12⟩:=hr.shp.nums;have ht:=h.totle hr;have h0:=h.top0;have hoT:=h.oldT;rcases h.place hr hi with⟨p1,p2,p3,p4⟩|⟨p1,p2,p3⟩<;>rcases h.place hr hi' with⟨q1,q2,q3,q4⟩|⟨q1,q2,q3⟩
 ·have:=h.layN.apart p1 q1 hn;omega
 ·left;omega
 ·right;omega
 ·have:=(h.olds hr).apart p1 q1 hn;omega
theorem I8.inj (h:I8 M0 ten C R cl D) (hr:J8 M0 ten) {a a' b:Nat} (hi:K9 M0 C.mv a b) (hi':K9 M0 C.mv a' b):a=a':=by
 have hon:=(h.olds hr).nodup;rw[Zx] at hon;have key:∀ {a b:Nat},a=b∧a∈(partO M0).1.map (·.a)→((a':Int),(b:Int))∈C.mv→False:=fun {a b} h1 h2=>by
  obtain⟨rfl,hm⟩:=h1;obtain⟨x,hx,rfl⟩:=Zu.1 hm;have q:=(hr.inO hx).2.2.1;rcases h.side_ h2 with⟨r1,r2⟩|⟨r1,r2⟩
  ·unfold D1 at q;omega
  ·exact hon.2.2 _ hm _ r1 rfl
 rcases hi with hi|hi<;>rcases hi' with hi'|hi'
 ·rw[hi.1,hi'.1]
 ·exact (key hi hi').elim
 ·obtain⟨rfl,hm⟩:=hi';obtain⟨x,hx,rfl⟩:=Zu.1 hm;have q:=(hr.inO hx).2.2.1;rcases h.side_ hi with⟨r1,r2⟩|⟨r1,r2⟩
  ·unfold D1 at q;omega
  ·exact (hon.2.2 _ hm _ r1 rfl).elim
 ·have hp:∀ (f:Int × Int→Bool),f ((a:Int),(b:Int))=true→f ((a':Int),(b:Int))=true→((C.mv.filter f).map fun p=>p.2.toNat).Nodup→a=a':=fun f f1 f2 hnn=>by
   have:=B7r hnn (Zt.2 ⟨hi,f1⟩) (Zt.2 ⟨hi',f2⟩) rfl;injection this with e1 e2;omega
  by_cases q:(b:Int)<2*M0.half
  ·exact hp _ (decide_eq_true q) (decide_eq_true q) h.layN.nodup
  ·exact hp _ (decide_eq_true (by simp only;omega)) (decide_eq_true (by simp only;omega)) h.layO.nodup
end
theorem B1c (W cs:List Int) (off i:Nat) (h:off+cs.length≤W.length):A6 (splice W off cs) i=if off≤i∧i<off+cs.length then cs.getD (i-off) 0 else A6 W i:=by
 unfold A6 splice;simp only[Zi];have hl:(W.take off).length=off:=by rw[List.length_take];omega
 by_cases h1:i<off
 ·rw[if_neg (by omega),Zj (by omega),List.getElem?_take,if_pos h1]
 ·rw[Zk (by omega),hl];by_cases h2:i<off+cs.length
  ·rw[if_pos ⟨by omega,h2⟩,Zj (by omega)]
  ·rw[if_neg (by omega),Zk (by omega),List.getElem?_drop];congr 2;omega
theorem F8k (W:List Int) (a n k:Nat) (hk:k<n):((W.drop a).take n).getD k 0=A6 W (a+k):=by
 unfold A6;simp only[Zi];rw[List.getElem?_take,if_pos hk,List.getElem?_drop]
section
variable {C:D9} {j:Nat}
theorem E6s:(L6 C j).top=if C.ten≤F4 (A6 C.M.W j) then C.top else C.top+(1+B5 (A6 C.M.W j)):=rfl
theorem E6r:(L6 C j).M.oldTop=if C.ten≤F4 (A6 C.M.W j) then C.M.oldTop+(1+B5 (A6 C.M.W j)) else C.M.oldTop:=rfl
theorem A4g:(L6 C j).mv=C.mv++[((j:Int),U4 C j)]:=rfl
theorem B7k:(L6 C j).todo=if D2 (B3 (A6 C.M.W j)) then C.todo else C.todo++[U4 C j]:=rfl
theorem E6p:(L6 C j).M.W=(splice C.M.W ((U4 C j).toNat+1) ((C.M.W.drop (j+1)).take (B5 (A6 C.M.W j)).toNat)).set (U4 C j).toNat (B4j C j):=rfl
theorem E6t (hc:A7n C j) (to:Nat) (hto:U4 C j=(to:Int)) :
  A6 (L6 C j).M.W to=B0r C.ten (A6 C.M.W j)∧(∀ k,k<A9 C.M.W j→A6 (L6 C j).M.W (to+1+k)=A6 C.M.W (j+1+k))∧(∀ i,i<to∨to+1+A9 C.M.W j≤i→A6 (L6 C j).M.W i=A6 C.M.W i):=by
 have hw:=O6 hc.ok j;have z0:=(Z9 (A6 C.M.W j) hw.1).2.2.2.2.2.2;have hd:=hc.dst;have hs:=hc.src;rw[hto] at hd;have hz:(A9 C.M.W j:Int)=B5 (A6 C.M.W j):=by unfold A9;omega
 have hl:((C.M.W.drop (j+1)).take (B5 (A6 C.M.W j)).toNat).length=A9 C.M.W j:=by rw[List.length_take,List.length_drop];unfold A9 at hz ⊢;omega
 have hsp:=fun i=>B1c C.M.W ((C.M.W.drop (j+1)).take (B5 (A6 C.M.W j)).toNat) (to+1) i (by rw[hl];omega)
 rw[hl] at hsp;have hlen:(splice C.M.W (to+1) ((C.M.W.drop (j+1)).take (B5 (A6 C.M.W j)).toNat)).length=C.M.W.length:=by rw[length_splice];rw[hl];omega
 rw[E6p,hto,Zc];refine⟨?_,fun k hk=>?_,fun i hi=>?_⟩
 ·rw[A6q _ _ _ (by rw[hlen];omega)];rfl
 ·rw[A2r _ _ _ _ (by omega),hsp,if_pos ⟨by omega,by omega⟩,show to+1+k-(to+1)=k by omega];exact F8k _ _ _ _ hk
 ·rw[A2r _ _ _ _ (by omega),hsp,if_neg (by omega)]
end
section
variable {M0:A7} {ten:Int} {C:D9} {R:Nat→Prop} {cl:Bool} {D:List Int}
theorem I8.shp (h:I8 M0 ten C R cl D) (hr:J8 M0 ten):G2 C.M:=by
 have h1:=h.totle hr;have h2:=h.top0;have h3:=h.oldT;have h4:=hr.shp.p1;have h5:=hr.room;exact h.like.shp hr.shp ⟨by omega,by rw[h.like.old];omega⟩
theorem I8.todo_img (h:I8 M0 ten C R cl D) {b:Int} (hb:b∈D++C.todo):∃ a:Nat,((a:Int),b)∈C.mv∧0≤b∧D2 (B3 (A6 M0.W a))=false:=by
 rw[←h.todo] at hb;obtain⟨p,hp,rfl⟩:=Zu.1 hb;obtain⟨hp1,hp2⟩:=Zt.1 hp;obtain⟨x,hx,e⟩:=h.keys p hp1;refine⟨x.a,by rw[←e];exact hp1,h.vals p hp1,?_⟩;rw[e,Zc] at hp2;simpa using hp2
theorem I8.todo_len (h:I8 M0 ten C R cl D) (hr:J8 M0 ten):C.todo.length+D.length≤M0.top.toNat:=by
 have h1:=(h.totle hr).2;have h2:(LFl M0 C.mv).length≤C.mv.length:=by unfold LFl;rw[List.length_map];exact List.length_filter_le _ _
 rw[h.todo,List.length_append] at h2;omega
theorem C8t (h:I8 M0 ten C R cl D) (hr:J8 M0 ten) {x:Ob} (hx:x∈(partN M0).1) (hn:K0 C.mv (x.a:Int)=none):A7n C x.a:=by
 obtain⟨hh,e1,e2,e3,e4,e5,e6,e7,e8,e9,e10,e11,e12⟩:=hr.shp.nums;obtain⟨i1,i2,i3,i4,i5⟩:=hr.inN hx;have e0:A6 C.M.W x.a=A6 M0.W x.a:=h.src _ i3 (by omega);have hroom:=h.room hr hx hn;have h0:=h.top0;have hoT:=h.oldT;have hz0:=(Z9 (A6 M0.W x.a) (O6 hr.ok x.a).1).2.2.2.2.2.2;have hz:(A9 M0.W x.a:Int)=B5 (A6 M0.W x.a):=by unfold A9;omega
 have hro:=hr.room;have hlW:=h.like.lenW;have hb:=h.base;have hlh:=h.like.half;have htl:=h.todo_len hr;refine⟨h.shp hr,h.ok,by rw[h.tenE];exact hr.ten,by omega,by omega,by rw[e0];exact i2,by rw[e0];omega,?_,hn,by omega⟩;unfold U4;rw[e0,hlh]
 split<;>omega
theorem E6v (h:I8 M0 ten C R cl D) (hr:J8 M0 ten) {x:Ob} (hx:x∈(partN M0).1) (hn:K0 C.mv (x.a:Int)=none):I8 M0 ten (L6 C x.a) R cl D:=by
 have hcm:=C8t h hr hx hn;obtain⟨hh,e1,e2,e3,e4,e5,e6,e7,e8,e9,e10,e11,e12⟩:=hr.shp.nums;obtain⟨i1,i2,i3,i4,i5⟩:=hr.inN hx;have e0:A6 C.M.W x.a=A6 M0.W x.a:=h.src _ i3 (by omega);have hroom:=h.room hr hx hn;have h0:=h.top0;have hoT:=h.oldT;have hz0:=(Z9 (A6 M0.W x.a) (O6 hr.ok x.a).1).2.2.2.2.2.2;have hz:(A9 M0.W x.a:Int)=B5 (A6 M0.W x.a):=by unfold A9;omega
 have hsz:A9 C.M.W x.a=A9 M0.W x.a:=by unfold A9;rw[e0]
 have hro:=hr.room;have hb:=h.base;have hlh:=h.like.half;have hd:=hcm.dst;obtain⟨to,hto⟩:∃ to:Nat,U4 C x.a=(to:Int):=⟨(U4 C x.a).toNat,by omega⟩;obtain⟨f1,f2,f3⟩:=E6t hcm to hto;rw[hsz] at f2 f3;rw[e0,h.tenE] at f1;have side:(ten≤F4 (A6 M0.W x.a)∧to=D1 M0+C.M.oldTop.toNat)∨(¬ten≤F4 (A6 M0.W x.a)∧to=nbM M0+C.top.toNat):=by
  unfold U4 at hto;rw[e0,h.tenE,hlh,hb] at hto;by_cases q:ten≤F4 (A6 M0.W x.a)
  ·rw[if_pos q] at hto;left;exact⟨q,by omega⟩
  ·rw[if_neg q] at hto;right;exact⟨q,by omega⟩
 have out:∀ a b,K9 M0 C.mv a b→b+1+A9 M0.W a≤to∨to+1+A9 M0.W x.a≤b:=fun a b hi=>by
  rcases h.place hr hi with⟨p1,p2,p3,p4⟩|⟨p1,p2,p3⟩<;>rcases side with⟨s1,s2⟩|⟨s1,s2⟩
  ·left;omega
  ·left;omega
  ·left;omega
  ·right;omega
 have same:∀ a b,K9 M0 C.mv a b→∀ k,k≤A9 M0.W a→A6 (L6 C x.a).M.W (b+k)=A6 C.M.W (b+k):=fun a b hi k hk=>f3 _ (by rcases out a b hi with q|q<;>omega)
 have imgs:∀ a b,K9 M0 (L6 C x.a).mv a b→K9 M0 C.mv a b∨(a=x.a∧b=to):=fun a b hi=>by
  rw[A4g,hto] at hi;rcases hi with hi|hi
  ·exact Or.inl (Or.inl hi)
  ·rcases Zr.1 hi with hi|hi
   ·exact Or.inl (Or.inr hi)
   ·right;rw[Zw] at hi;injection hi with q1 q2;omega
 have hraw:B3 (A6 C.M.W x.a)=B3 (A6 M0.W x.a):=by rw[e0]
 have tsz:∀ b∈C.todo,A9 (L6 C x.a).M.W b.toNat=A9 C.M.W b.toNat∧∃ a,K9 M0 C.mv a b.toNat∧A9 C.M.W b.toNat=A9 M0.W a:=fun b hb'=>by
  obtain⟨a,ha,hb0,_⟩:=h.todo_img (Zr.2 (Or.inr hb'));have hi:K9 M0 C.mv a b.toNat:=Or.inr (by rw[Zd hb0];exact ha);have:=same a b.toNat hi 0 (by omega);rw[Nat.add_zero] at this;exact⟨by unfold A9;rw[this],a,hi,(h.hd hr hi).2.2.2.1⟩
 have szto:A9 (L6 C x.a).M.W to=A9 M0.W x.a:=by
  unfold A9;rw[f1,(B4l (ten:=ten) (O6 hr.ok x.a).1 i2).2.2.2.2]
 have pend_old:∀ a b,K9 M0 C.mv a b→∀ k,k<A9 M0.W a→(A3o (L6 C x.a) R (b+1+k)↔A3o C R (b+1+k)):=fun a b hi k hk=>by
  unfold A3o;rw[B7k,hraw,hto];constructor
  ·rintro (q|⟨c,hc,q1,q2⟩)
   ·exact Or.inl q
   ·have:c∈C.todo∨c=(to:Int):=by
     cases hq:D2 (B3 (A6 M0.W x.a)) with
     | true=>rw[hq] at hc;exact Or.inl hc
     | false =>
      rw[hq] at hc;rcases Zr.1 hc with hc|hc
      ·exact Or.inl hc
      ·exact Or.inr (Zw.1 hc)
    rcases this with hc|rfl
    ·rw[(tsz c hc).1] at q2;exact Or.inr ⟨c,hc,q1,q2⟩
    ·rw[Zc] at q1 q2;rw[szto] at q2;rcases out a b hi with r|r<;>omega
  ·rintro (q|⟨c,hc,q1,q2⟩)
   ·exact Or.inl q
   ·refine Or.inr ⟨c,?_,q1,by rw[(tsz c hc).1];exact q2⟩
    cases hq:D2 (B3 (A6 M0.W x.a)) with
    | true=>exact hc
    | false=>exact Zr.2 (Or.inl hc)
 have pend_new:D2 (B3 (A6 M0.W x.a))=false→∀ k,k<A9 M0.W x.a→A3o (L6 C x.a) R (to+1+k):=fun hq k hk=>by
  refine Or.inr ⟨(to:Int),?_,by omega,by rw[Zc,szto];omega⟩;rw[B7k,hraw,hq,hto];exact Zr.2 (Or.inr (Zw.2 rfl))
 have htop:(L6 C x.a).top=if ten≤F4 (A6 M0.W x.a) then C.top else C.top+(1+A9 M0.W x.a):=by rw[E6s,e0,h.tenE,hz]
 have hold:(L6 C x.a).M.oldTop=if ten≤F4 (A6 M0.W x.a) then C.M.oldTop+(1+A9 M0.W x.a) else C.M.oldTop:=by rw[E6r,e0,h.tenE,hz]
 have hside:2*M0.half≤(to:Int)↔ten≤F4 (A6 M0.W x.a):=by
  rcases side with⟨s1,s2⟩|⟨s1,s2⟩
  ·exact⟨fun _=>s1,fun _=>by omega⟩
  ·exact⟨fun _=>by omega,fun q=>absurd q s1⟩
 have valN:∀ b∈LNl M0 C.mv,A6 (L6 C x.a).M.W b=A6 C.M.W b:=fun b hb'=>by
  obtain⟨p,hp,rfl⟩:=Zu.1 hb';obtain⟨hp1,hp2⟩:=Zt.1 hp;have:=h.vals p hp1;have h3:=h.layN.mem _ hb';exact f3 _ (by rcases side with⟨s1,s2⟩|⟨s1,s2⟩<;>omega)
 have valO:∀ b∈LOl M0 C.mv,A6 (L6 C x.a).M.W b=A6 C.M.W b:=fun b hb'=>by
  have h3:=h.layO.mem _ hb';exact f3 _ (by rcases side with⟨s1,s2⟩|⟨s1,s2⟩<;>omega)
 refine⟨h.like.then_ (C1s hcm),E6q hcm,h.tenE,h.base,?_,?_,?_,?_,?_,?_,?_,?_,?_,?_,?_,?_,?_,?_,?_⟩
 ·rw[htop];split<;>omega
 ·rw[hold];split<;>omega
 ·rw[htop,hold,A4g,Zn,List.sum_append];have:=h.tot;simp only[Zo,Zq,Ya,List.sum_nil,Zc]
  split<;>omega
 ·intro i q1 q2;rw[f3 i (by rcases side with⟨s1,s2⟩|⟨s1,s2⟩<;>rcases e3 with⟨u1,u2,u3⟩|⟨u1,u2,u3⟩<;>omega)];exact h.src i q1 q2
 ·intro p hp;rw[A4g] at hp;rcases Zr.1 hp with hp|hp
  ·exact h.keys p hp
  ·rw[Zw.1 hp];exact⟨x,hx,rfl⟩
 ·rw[A4g,Zn,Zx];refine⟨h.nodup,by simp,fun a ha b hb' e=>?_⟩;simp only[Zo,Zq,Zc,Zw] at hb';obtain⟨p,hp,e2⟩:=Zu.1 ha;obtain⟨y,hy,e3⟩:=h.keys p hp;exact B4i hn p hp (by omega)
 ·intro p hp;rw[A4g] at hp;rcases Zr.1 hp with hp|hp
  ·exact h.vals p hp
  ·rw[Zw.1 hp];exact hd.1
 ·intro p hp;rw[A4g,hto] at hp;rcases Zr.1 hp with hp|hp
  ·exact h.side p hp
  ·rw[Zw.1 hp,Zc];exact hside
 ·intro p hp;rw[A4g,hto] at hp;rcases Zr.1 hp with hp|hp
  ·have hi:K9 M0 C.mv p.1.toNat p.2.toNat:=Or.inr (by
    obtain⟨y,hy,e⟩:=h.keys p hp;rw[Zd (by omega),Zd (h.vals p hp)];exact hp)
   have:=same _ _ hi 0 (by omega);rw[Nat.add_zero] at this;rw[this];exact h.head p hp
  ·rw[Zw.1 hp,Zc,Zc];exact f1
 ·have hl:=h.layN.congr valN;unfold LNl at hl ⊢;rw[A4g,hto,Zf,Zn];rcases side with⟨s1,s2⟩|⟨s1,s2⟩
  ·have:(List.filter (fun p:Int × Int=>decide (p.2<2*M0.half)) [((x.a:Int),(to:Int))])=[]:=by
    rw[Zg,if_neg (by simp;omega),Zh]
   rw[this,htop,if_pos s1,Zq,List.append_nil];exact hl
  ·have:(List.filter (fun p:Int × Int=>decide (p.2<2*M0.half)) [((x.a:Int),(to:Int))])=[((x.a:Int),(to:Int))]:=by
    rw[Zg,if_pos (by simp;omega),Zh]
   rw[this,htop,if_neg s1];refine hl.app ⟨by simpa using s2,?_,?_⟩
   ·rw[←s2,f1];exact (B4l (O6 hr.ok x.a).1 i2).1
   ·show nbM M0+C.top.toNat+1+A9 (L6 C x.a).M.W (nbM M0+C.top.toNat)=_;rw[←s2,szto];omega
 ·have hl:=h.layO.congr valO;unfold LOl at hl ⊢;rw[A4g,hto,Zf,Zn];rcases side with⟨s1,s2⟩|⟨s1,s2⟩
  ·have:(List.filter (fun p:Int × Int=>decide (2*M0.half≤p.2)) [((x.a:Int),(to:Int))])=[((x.a:Int),(to:Int))]:=by
    rw[Zg,if_pos (by simp;omega),Zh]
   rw[this,hold,if_pos s1];refine hl.app ⟨by simpa using s2,?_,?_⟩
   ·rw[←s2,f1];exact (B4l (O6 hr.ok x.a).1 i2).1
   ·show D1 M0+C.M.oldTop.toNat+1+A9 (L6 C x.a).M.W (D1 M0+C.M.oldTop.toNat)=_;rw[←s2,szto];omega
  ·have:(List.filter (fun p:Int × Int=>decide (2*M0.half≤p.2)) [((x.a:Int),(to:Int))])=[]:=by
    rw[Zg,if_neg (by simp;omega),Zh]
   rw[this,hold,if_neg s1,Zq,List.append_nil];exact hl
 ·intro y hy;obtain⟨r1,r2,r3,r4,r5,r6⟩:=hr.inO hy;rw[f3 _ (by rcases side with⟨s1,s2⟩|⟨s1,s2⟩<;>omega)];exact h.hdO y hy
 ·intro a b hi k hk;rcases imgs a b hi with hi'|⟨rfl,rfl⟩
  ·obtain⟨q1,q2⟩:=h.fld a b hi' k hk;have hs:=same a b hi' (1+k) (by omega);rw[←Nat.add_assoc] at hs;rw[hs,pend_old a b hi' k hk];exact⟨q1,fun hq=>⟨(q2 hq).1,fun hp=>((q2 hq).2 hp).app _⟩⟩
  ·have hs:=(f2 k hk).trans (h.src _ (by omega) (by omega));rw[hs];exact⟨fun _=>rfl,fun hq=>⟨fun _=>rfl,fun hp=>absurd (pend_new hq k hk) hp⟩⟩
 ·intro a b hi k hk hq hb' hp hy;rcases imgs a b hi with hi'|⟨rfl,rfl⟩
  ·have hs:=same a b hi' (1+k) (by omega);rw[←Nat.add_assoc] at hs;rw[pend_old a b hi' k hk] at hp;rw[hs] at hy;exact h.crd a b hi' k hk hq hb' hp hy
  ·exact absurd (pend_new hq k hk) hp
 ·have:=h.todo;unfold LFl at this ⊢;rw[A4g,B7k,hraw,hto,Zf,Zn,this]
  cases hq:D2 (B3 (A6 M0.W x.a)) with
  | true=>simp[hq]
  | false=>simp[hq]
theorem C5s (h:I8 M0 ten C R cl D) (hr:J8 M0 ten) {u:Int} (hf:D0 (C6 M0) u=true) :
  A7m C u∧I8 M0 ten (F9 C u).2 R cl D∧Fol M0 (F9 C u).2.mv u (F9 C u).1∧(F9 C u).2.M.roots=C.M.roots∧(F9 C u).2.M.cards=C.M.cards∧(∀ p∈C.mv,p∈(F9 C u).2.mv)∧((F9 C u).2.todo=C.todo∨∃ t,(F9 C u).2.todo=C.todo++[t]∧∀ p∈C.mv,p.2≠t):=by
 have hst:=h.like.stays u
 cases hs:stays M0 u with
 | true =>
  have hs':=hst.trans hs;have e:F9 C u=(u,C):=by unfold F9;rw[hs'];rfl
  rw[e];exact⟨fun q=>(by rw[hs'] at q;cases q),h,Or.inl ⟨hs,rfl⟩,rfl,rfl,fun p hp=>hp,Or.inl rfl⟩
 | false =>
  have hs':=hst.trans hs;have hy:J5 M0 u=true:=by unfold stays at hs;simpa using hs
  unfold J5 at hy;simp only[Za,beq_iff_eq,bne_iff_ne] at hy;obtain⟨⟨hk,hu⟩,ho⟩:=hy;have hin:C9 u∈C6 M0:=by
   unfold D0 at hf;rw[if_pos hk] at hf;simp only[Bool.or_eq_true,beq_iff_eq] at hf;rcases hf with q|q
   ·exact absurd q hu
   ·exact List.contains_iff_mem.1 q
  obtain⟨x,hx,hxe⟩:=Zu.1 hin;have hxN:x∈(partN M0).1:=by
   unfold D8 at hx;rcases Zr.1 hx with q|q
   ·exact q
   ·have:=(hr.inO q).2.2.1;unfold L4 at ho;simp only[Bool.not_eq_true',decide_eq_false_iff_not] at ho;unfold D1 at this;omega
  cases hl:K0 C.mv (C9 u) with
  | some to =>
   have e:F9 C u=(D3 to,C):=by unfold F9;rw[hs',hl];rfl
   rw[e];exact⟨fun _ q=>(by rw[hl] at q;cases q),h,Or.inr ⟨hs,to,hl,rfl⟩,rfl,rfl,fun p hp=>hp,Or.inl rfl⟩
  | none =>
   have e:F9 C u=(D3 (U4 C x.a),L6 C x.a):=by
    unfold F9;rw[hs',hl,←hxe,Zc];rfl
   rw[e];have hl':=hl;rw[←hxe] at hl';have hcm:=C8t h hr hxN hl';have hi':=E6v h hr hxN hl';refine⟨fun _ _=>?_,hi',Or.inr ⟨hs,U4 C x.a,?_,rfl⟩,rfl,rfl,fun p hp=>?_,?_⟩
   ·rw[←hxe,Zc];exact⟨by omega,hcm⟩
   ·rw[←hxe,A4g];exact E6i hl'
   ·rw[A4g];exact Zr.2 (Or.inl hp)
   ·rw[B7k]
    cases hq:D2 (B3 (A6 C.M.W x.a)) with
    | true=>exact Or.inl rfl
    | false =>
     refine Or.inr ⟨_,rfl,fun p hp he=>?_⟩;have h1:K9 M0 (L6 C x.a).mv p.1.toNat p.2.toNat:=Or.inr (by
      obtain⟨y,hy,e⟩:=h.keys p hp;rw[A4g,Zd (by omega),Zd (h.vals p hp)];exact Zr.2 (Or.inl hp))
     have h2:K9 M0 (L6 C x.a).mv x.a p.2.toNat:=Or.inr (by
      rw[A4g,Zd (h.vals p hp),he];exact Zr.2 (Or.inr (Zw.2 rfl)))
     have h3:=hi'.inj hr h1 h2;obtain⟨y,hy,e⟩:=h.keys p hp;exact B4i hl' p hp (by omega)
end
section
variable {M0:A7} {ten:Int} {C:D9} {R:Nat→Prop} {cl:Bool} {D:List Int}
theorem I8.congrR (h:I8 M0 ten C R cl D) {R':Nat→Prop} (e:∀ i,R i↔R' i):I8 M0 ten C R' cl D:=by
 have:R=R':=funext fun i=>propext (e i)
 rw[←this];exact h
theorem I8.img_all (h:I8 M0 ten C R cl D) {a b:Nat} (hi:K9 M0 C.mv a b):∃ x∈D8 M0,x.a=a:=by
 unfold D8;rcases hi with⟨rfl,hm⟩|hm
 ·obtain⟨x,hx,rfl⟩:=Zu.1 hm;exact⟨x,Zr.2 (Or.inr hx),rfl⟩
 ·obtain⟨x,hx,e⟩:=h.keyN hm;exact⟨x,Zr.2 (Or.inl hx),e⟩
theorem I8.fldB_ (h:I8 M0 ten C R cl D) (hr:J8 M0 ten) {a b:Nat} (hi:K9 M0 C.mv a b) (hq:D2 (B3 (A6 M0.W a))=false) {k:Nat} (hk:k<A9 M0.W a):D0 (C6 M0) (A6 M0.W (a+1+k))=true:=by
 obtain⟨x,hx,rfl⟩:=h.img_all hi;have hg:=K5 (L8 hr.chk).1;have hm:=A2z hg.1 hx;exact B1t hg.2.2.2.2.1 hx (by rw[hm.2.1];exact hq) k (by unfold Ob.n;rw[hm.2.1];exact hk)
theorem I8.inW (h:I8 M0 ten C R cl D) (hr:J8 M0 ten) {a b:Nat} (hi:K9 M0 C.mv a b):b+1+A9 M0.W a≤C.M.W.length:=by
 obtain⟨hh,e1,e2,e3,e4,e5,e6,e7,e8,e9,e10,e11,e12⟩:=hr.shp.nums;have ht:=h.totle hr;have h0:=h.top0;have hoT:=h.oldT;have hro:=hr.room;rw[h.like.lenW];rcases h.place hr hi with⟨p1,p2,p3,p4⟩|⟨p1,p2,p3⟩<;>omega
theorem F6j (h:I8 M0 ten C R true D) (hr:J8 M0 ten) {a b:Nat} (hi:K9 M0 C.mv a b) {k:Nat} (hk:k<A9 M0.W a) (hq:D2 (B3 (A6 M0.W a))=false)
  (hT:∀ c∈C.todo,c≠(b:Int)) {v:Int} (hv:Fol M0 C.mv (A6 M0.W (a+1+k)) v) (h0:0≤v) (h1:v≤18446744073709551615) :
  I8 M0 ten {C with M:=J3 C.M (b+1+k) v} (fun i=>R i∧i≠b+1+k) true D:=by
 have hW:=D1x C.M (b+1+k) v;have hlt:b+1+k<C.M.W.length:=by have:=h.inW hr hi;omega
 have hat:∀ i,i≠b+1+k→A6 (J3 C.M (b+1+k) v).W i=A6 C.M.W i:=fun i hne=>by rw[hW];exact A2r _ _ _ _ hne
 have hat0:A6 (J3 C.M (b+1+k) v).W (b+1+k)=v:=by rw[hW];exact A6q _ _ _ hlt
 obtain⟨hh,e1,e2,e3,e4,e5,e6,e7,e8,e9,e10,e11,e12⟩:=hr.shp.nums;have htl:=h.totle hr;have ht0:=h.top0;have hoT:=h.oldT;have hro:=hr.room;have hpl:=h.place hr hi;have same:=B0y C.M (b+1+k) v;have head_ne:∀ a' b',K9 M0 C.mv a' b'→b'≠b+1+k:=fun a' b' hi' e=>by
  by_cases q:b=b'
  ·omega
  ·rcases h.apart hr hi hi' q with r|r<;>omega
 have szb:∀ a' b',K9 M0 C.mv a' b'→A9 (J3 C.M (b+1+k) v).W b'=A9 C.M.W b':=fun a' b' hi'=>by
  unfold A9;rw[hat _ (head_ne a' b' hi')]
 have timg:∀ c∈C.todo,∃ a',K9 M0 C.mv a' c.toNat∧A9 C.M.W c.toNat=A9 M0.W a'∧0≤c:=fun c hc=>by
  obtain⟨a',q1,q2,q3⟩:=h.todo_img (Zr.2 (Or.inr hc));have hi':K9 M0 C.mv a' c.toNat:=Or.inr (by rw[Zd q2];exact q1);exact⟨a',hi',(h.hd hr hi').2.2.2.1,q2⟩
 have pend:∀ i,A3o {C with M:=J3 C.M (b+1+k) v} (fun i=>R i∧i≠b+1+k) i↔(A3o C R i∧i≠b+1+k):=fun i=>by
  unfold A3o;constructor
  ·rintro (⟨q1,q2⟩|⟨c,hc,q1,q2⟩)
   ·exact⟨Or.inl q1,q2⟩
   ·obtain⟨a',r1,r2,r3⟩:=timg c hc;simp only at q2;rw[szb a' _ r1] at q2;refine⟨Or.inr ⟨c,hc,q1,q2⟩,fun e=>?_⟩;have hcb:=hT c hc;rcases h.apart hr hi r1 (by omega) with s|s<;>omega
  ·rintro⟨q1|⟨c,hc,q1,q2⟩,q3⟩
   ·exact Or.inl ⟨q1,q3⟩
   ·obtain⟨a',r1,r2,r3⟩:=timg c hc;exact Or.inr ⟨c,hc,q1,by simp only;rw[szb a' _ r1];exact q2⟩
 have only:∀ a' b',K9 M0 C.mv a' b'→∀ k',k'<A9 M0.W a'→b'+1+k'=b+1+k→b'=b∧a'=a∧k'=k:=fun a' b' hi' k' hk' e=>by
  by_cases q:b=b'
  ·subst q;exact⟨rfl,h.inj hr hi' hi,by omega⟩
  ·rcases h.apart hr hi hi' q with r|r<;>omega
 refine⟨h.like.then_ (F6h _ _ _),D1z h.ok _ _ h0 h1,h.tenE,h.base,h.top0,by show _≤(J3 C.M (b+1+k) v).oldTop;rw[C2x];exact h.oldT,?_,?_,h.keys,h.nodup,h.vals,h.side,?_,?_,?_,?_,?_,?_,h.todo⟩
 ·show C.top+((J3 C.M (b+1+k) v).oldTop-M0.oldTop)=_;rw[C2x];exact h.tot
 ·intro i q1 q2;rw[hat i (by rcases hpl with⟨p1,p2,p3,p4⟩|⟨p1,p2,p3⟩<;>rcases e3 with⟨u1,u2,u3⟩|⟨u1,u2,u3⟩<;>omega)];exact h.src i q1 q2
 ·intro p hp;have hi':K9 M0 C.mv p.1.toNat p.2.toNat:=Or.inr (by
   obtain⟨y,hy,e⟩:=h.keys p hp;rw[Zd (by omega),Zd (h.vals p hp)];exact hp)
  rw[hat _ (head_ne _ _ hi')];exact h.head p hp
 ·refine h.layN.congr fun c hc=>?_
  obtain⟨p,hp,rfl⟩:=Zu.1 hc;obtain⟨hp1,_⟩:=Zt.1 hp;have hi':K9 M0 C.mv p.1.toNat p.2.toNat:=Or.inr (by
   obtain⟨y,hy,e⟩:=h.keys p hp1;rw[Zd (by omega),Zd (h.vals p hp1)];exact hp1)
  exact hat _ (head_ne _ _ hi')
 ·show N7 (J3 C.M (b+1+k) v).W _ _ (D1 M0+(J3 C.M (b+1+k) v).oldTop.toNat);rw[C2x];refine h.layO.congr fun c hc=>?_
  obtain⟨p,hp,rfl⟩:=Zu.1 hc;obtain⟨hp1,_⟩:=Zt.1 hp;have hi':K9 M0 C.mv p.1.toNat p.2.toNat:=Or.inr (by
   obtain⟨y,hy,e⟩:=h.keys p hp1;rw[Zd (by omega),Zd (h.vals p hp1)];exact hp1)
  exact hat _ (head_ne _ _ hi')
 ·intro x hx;have hi':K9 M0 C.mv x.a x.a:=Or.inl ⟨rfl,Zv (f:=(·.a)) hx⟩;rw[hat _ (head_ne _ _ hi')];exact h.hdO x hx
 ·intro a' b' hi' k' hk';by_cases e:b'+1+k'=b+1+k
  ·obtain⟨rfl,rfl,rfl⟩:=only a' b' hi' k' hk' e;refine⟨fun q=>(by rw[hq] at q;cases q),fun _=>⟨fun p=>absurd rfl ((pend _).1 p).2,fun _=>?_⟩⟩;show Fol M0 C.mv _ (A6 (J3 C.M _ v).W _);rw[hat0];exact hv
  ·obtain⟨q1,q2⟩:=h.fld a' b' hi' k' hk';have hs:=hat _ e;refine⟨fun q=>hs.trans (q1 q),fun q=>⟨fun p=>hs.trans ((q2 q).1 ((pend _).1 p).1),fun p=>?_⟩⟩;show Fol M0 C.mv _ (A6 (J3 C.M _ v).W _);rw[hs];exact (q2 q).2 fun p'=>p ((pend _).2 ⟨p',e⟩)
 ·intro a' b' hi' k' hk' hq' hb' hp hy;refine⟨rfl,?_⟩;have mono:∀ j,A0e C.M j=true→A0e (J3 C.M (b+1+k) v) j=true:=fun j hj=>by
   unfold A0e at hj ⊢;rw[same.1,same.2.2.1];exact (D1y C.M (b+1+k) v).2 _ hj
  by_cases e:b'+1+k'=b+1+k
  ·obtain⟨rfl,rfl,rfl⟩:=only a' b' hi' k' hk' e;simp only[hat0] at hy;have hold:L4 C.M ((b'+1+k':Nat):Int)=true:=by unfold L4;rw[h.like.half];unfold D1 at hb';exact decide_eq_true (by omega)
   have hyo:J5 C.M v=true:=by rw[h.like.young];exact hy
   have hsc:=(h.shp hr).card ((b'+1+k':Nat):Int) (by rw[h.like.half];unfold D1 at hb';omega) (by rw[h.like.half,h.like.old];have:=h.like.lenW;omega);show A0e (J3 C.M (b'+1+k') v) _=true;unfold J3;rw[hold,hyo];simp only[Bool.and_self,if_true];unfold A0e A6p R5 A1q;simp only;rw[Zi,Zm (by omega)];rfl
  ·have hs:=hat _ e;simp only[hs] at hy;exact mono _ (h.crd a' b' hi' k' hk' hq' hb' (fun p'=>hp ((pend _).2 ⟨p',e⟩)) hy).2
theorem D1w (h:I8 M0 ten C R true D) (hr:J8 M0 ten) {a b:Nat} (hi:K9 M0 C.mv a b) {k:Nat} (hk:k<A9 M0.W a) (hq:D2 (B3 (A6 M0.W a))=false) (hP:R (b+1+k)) (hT:∀ c∈C.todo,c≠(b:Int)) :
  (b+1+k<C.M.W.length∧C.M.Ok∧G2 C.M∧A7m C (A6 C.M.W (b+1+k))∧(0≤(F9 C (A6 C.M.W (b+1+k))).1∧(F9 C (A6 C.M.W (b+1+k))).1≤18446744073709551615)∧(F9 C (A6 C.M.W (b+1+k))).2.M.Ok∧G2 (F9 C (A6 C.M.W (b+1+k))).2.M∧b+1+k<(F9 C (A6 C.M.W (b+1+k))).2.M.W.length) ∧
  I8 M0 ten {(F9 C (A6 C.M.W (b+1+k))).2 with M:=J3 (F9 C (A6 C.M.W (b+1+k))).2.M (b+1+k) (F9 C (A6 C.M.W (b+1+k))).1} (fun i=>R i∧i≠b+1+k) true D ∧
  (∀ p∈C.mv,p∈(F9 C (A6 C.M.W (b+1+k))).2.mv)∧(∀ c∈(F9 C (A6 C.M.W (b+1+k))).2.todo,c≠(b:Int))∧(F9 C (A6 C.M.W (b+1+k))).2.M.roots=C.M.roots:=by
 have hu:A6 C.M.W (b+1+k)=A6 M0.W (a+1+k):=((h.fld a b hi k hk).2 hq).1 (Or.inl hP);have hf:=h.fldB_ hr hi hq hk;rw[←hu] at hf;obtain⟨f1,f2,f3,f4,f5,f6,f7⟩:=C5s h hr hf;have hw:=O6 h.ok (b+1+k);have hv:=C5r (C:=C) hw.1 hw.2;have hi2:K9 M0 (F9 C (A6 C.M.W (b+1+k))).2.mv a b:=by
  rcases hi with q|q
  ·exact Or.inl q
  ·exact Or.inr (f6 _ q)
 have hT2:∀ c∈(F9 C (A6 C.M.W (b+1+k))).2.todo,c≠(b:Int):=fun c hc=>by
  rcases f7 with e|⟨t,e,ht⟩
  ·rw[e] at hc;exact hT c hc
  ·rw[e] at hc;rcases Zr.1 hc with hc'|hc'
   ·exact hT c hc'
   ·rw[Zw] at hc';subst hc';rcases hi with⟨rfl,hm⟩|hm
    ·intro eb;obtain⟨a',q1,q2,q3⟩:=f2.todo_img (b:=c) (Zr.2 (Or.inr (by rw[e];exact hc)));have hi':K9 M0 (F9 C (A6 C.M.W (a+1+k))).2.mv a' a:=Or.inr (by rw[←eb];exact q1);have ea:=f2.inj hr hi' hi2;subst ea;obtain⟨y,hy,ey⟩:=f2.keyN (a:=a') (b:=c.toNat) (by rw[Zd q2];exact q1);obtain⟨z,hz,ez⟩:=Zu.1 hm;obtain⟨hh,e1,e2,e3,e4,e5,e6,e7,e8,e9,e10,e11,e12⟩:=hr.shp.nums;have r1:=hr.inN hy;have r2:=hr.inO hz;rcases e3 with⟨u1,u2,u3⟩|⟨u1,u2,u3⟩<;>omega
    ·exact fun eb=>ht _ hm eb.symm
 rw[hu] at f3;have hs:=F6j f2 hr hi2 hk hq hT2 (v:=(F9 C (A6 C.M.W (b+1+k))).1) (by rw[hu];exact f3) hv.1 hv.2;exact⟨⟨by have:=h.inW hr hi;omega,h.ok,h.shp hr,f1,hv,f2.ok,f2.shp hr,by have:=f2.inW hr hi2;omega⟩,hs,f6,hT2,f4⟩
theorem C5k (hr:J8 M0 ten) {a b:Nat} (hq:D2 (B3 (A6 M0.W a))=false):∀ (n k:Nat) (C:D9),k+n=A9 M0.W a→I8 M0 ten C (fun i=>R i∨(b+1+k≤i∧i<b+1+A9 M0.W a)) true D→(∀ i,b+1≤i→i<b+1+A9 M0.W a→¬R i) →
  K9 M0 C.mv a b→(∀ c∈C.todo,c≠(b:Int)) →
  B1d C (b+1+k) n∧I8 M0 ten (A6a C (b+1+k) n) R true D∧(∀ p∈C.mv,p∈(A6a C (b+1+k) n).mv)∧(A6a C (b+1+k) n).M.roots=C.M.roots
 | 0,k,C,hk,h,hR,hi,hT=>⟨trivial,h.congrR fun i=>⟨fun q=>q.elim id fun q=>by omega,Or.inl⟩,fun p hp=>hp,rfl⟩
 | n+1,k,C,hk,h,hR,hi,hT=>by
  obtain⟨⟨c1,c2,c3,c4,c5,c6,c7,c8⟩,s2,s3,s4,s5⟩:=D1w h hr hi (k:=k) (by omega) hq (Or.inr ⟨Nat.le_refl _,by omega⟩) hT;have s2':=s2.congrR (R':=fun i=>R i∨(b+1+(k+1)≤i∧i<b+1+A9 M0.W a)) fun i=>by
   constructor
   ·rintro⟨q|q,hne⟩
    ·exact Or.inl q
    ·exact Or.inr (by omega)
   ·rintro (q|q)
    ·refine⟨Or.inl q,fun e=>?_⟩;exact hR i (by omega) (by omega) q
    ·exact⟨Or.inr (by omega),by omega⟩
  have hi2:K9 M0 (F9 C (A6 C.M.W (b+1+k))).2.mv a b:=by
   rcases hi with q|q
   ·exact Or.inl q
   ·exact Or.inr (s3 _ q)
  obtain⟨r1,r2,r3,r4⟩:=C5k hr hq n (k+1) _ (by omega) s2' hR hi2 s4;refine⟨⟨c1,c2,c3,c4,c5,c6,c7,c8,r1⟩,r2,fun p hp=>r3 p (s3 p hp),r4.trans ?_⟩;show (J3 _ _ _).roots=_;rw[(B0y _ _ _).2.2.2.2.2.2.1];exact s5
def B2v (was:List Bool) (C:D9):Nat→Nat→Prop
 | _,0=>True
 | i,n+1=>(i<C.M.W.length∧C.M.Ok∧G2 C.M∧2*C.M.half≤(i:Int)∧(i:Int)<2*C.M.half+C.M.old∧was.length=C.M.cards.length) ∧
   (was.getD (A1q C.M (i:Int)) false=true→A7m C (A6 C.M.W i)∧(0≤(F9 C (A6 C.M.W i)).1∧(F9 C (A6 C.M.W i)).1≤18446744073709551615)∧(F9 C (A6 C.M.W i)).2.M.Ok∧G2 (F9 C (A6 C.M.W i)).2.M∧i<(F9 C (A6 C.M.W i)).2.M.W.length ∧
    B2v was {(F9 C (A6 C.M.W i)).2 with M:=J3 (F9 C (A6 C.M.W i)).2.M i (F9 C (A6 C.M.W i)).1} (i+1) n) ∧
   (was.getD (A1q C.M (i:Int)) false=false→B2v was C (i+1) n)
def CT (M0:A7) (i:Nat):Prop:=M0.cards.getD (A1q M0 (i:Int)) false=true
theorem B9u (hr:J8 M0 ten) {b:Nat} (hb:b∈(partO M0).1.map (·.a)) (hq:D2 (B3 (A6 M0.W b))=false):∀ (n k:Nat) (C:D9),k+n=A9 M0.W b→I8 M0 ten C (fun i=>R i∨(b+1+k≤i∧i<b+1+A9 M0.W b∧CT M0 i)) true D→(∀ i,b+1≤i→i<b+1+A9 M0.W b→¬R i) →
  (∀ c∈C.todo,c≠(b:Int)) →
  B2v M0.cards C (b+1+k) n∧I8 M0 ten (A1a M0.cards C (b+1+k) n) R true D∧(∀ p∈C.mv,p∈(A1a M0.cards C (b+1+k) n).mv)∧(A1a M0.cards C (b+1+k) n).M.roots=C.M.roots
 | 0,k,C,hk,h,hR,hT=>⟨trivial,h.congrR fun i=>⟨fun q=>q.elim id fun q=>by omega,Or.inl⟩,fun p hp=>hp,rfl⟩
 | n+1,k,C,hk,h,hR,hT=>by
  have hi:K9 M0 C.mv b b:=Or.inl ⟨rfl,hb⟩;have hcard:A1q C.M ((b+1+k:Nat):Int)=A1q M0 ((b+1+k:Nat):Int):=by unfold A1q;rw[h.like.half,h.like.card]
  obtain⟨x,hx,hxe⟩:=Zu.1 hb;subst hxe;have hpl:=hr.inO hx;have hro:=hr.room;obtain⟨hh,e1,e2,e3,e4,e5,e6,e7,e8,e9,e10,e11,e12⟩:=hr.shp.nums;have hin:x.a+1+k<C.M.W.length∧C.M.Ok∧G2 C.M∧2*C.M.half≤((x.a+1+k:Nat):Int)∧((x.a+1+k:Nat):Int)<2*C.M.half+C.M.old∧M0.cards.length=C.M.cards.length :=
   ⟨by have:=h.inW hr hi;omega,h.ok,h.shp hr,by rw[h.like.half];omega,by rw[h.like.half,h.like.old];omega,h.like.lenC.symm⟩
  cases hc:M0.cards.getD (A1q M0 ((x.a+1+k:Nat):Int)) false with
  | false =>
   have h':=h.congrR (R':=fun i=>R i∨(x.a+1+(k+1)≤i∧i<x.a+1+A9 M0.W x.a∧CT M0 i)) fun i=>by
    constructor
    ·rintro (q|⟨q1,q2,q3⟩)
     ·exact Or.inl q
     ·refine Or.inr ⟨?_,q2,q3⟩;rcases Nat.lt_or_ge (x.a+1+k) i with g|g
      ·omega
      ·obtain rfl:i=x.a+1+k:=by omega
       unfold CT at q3;rw[hc] at q3;cases q3
    ·rintro (q|⟨q1,q2,q3⟩)
     ·exact Or.inl q
     ·exact Or.inr ⟨by omega,q2,q3⟩
   obtain⟨r1,r2,r3,r4⟩:=B9u hr hb hq n (k+1) C (by omega) h' hR hT;have e:A1a M0.cards C (x.a+1+k) (n+1)=A1a M0.cards C (x.a+1+(k+1)) n:=by
    rw[A1a,hcard,hc];rfl
   rw[e];exact⟨⟨hin,fun q=>(by rw[hcard,hc] at q;cases q),fun _=>r1⟩,r2,r3,r4⟩
  | true =>
   obtain⟨⟨c1,c2,c3,c4,c5,c6,c7,c8⟩,s2,s3,s4,s5⟩:=D1w h hr hi (k:=k) (by omega) hq (Or.inr ⟨Nat.le_refl _,by omega,hc⟩) hT;have s2':=s2.congrR (R':=fun i=>R i∨(x.a+1+(k+1)≤i∧i<x.a+1+A9 M0.W x.a∧CT M0 i)) fun i=>by
    constructor
    ·rintro⟨q|⟨q1,q2,q3⟩,hne⟩
     ·exact Or.inl q
     ·exact Or.inr ⟨by omega,q2,q3⟩
    ·rintro (q|⟨q1,q2,q3⟩)
     ·refine⟨Or.inl q,fun e=>?_⟩;exact hR i (by omega) (by omega) q
     ·exact⟨Or.inr ⟨by omega,q2,q3⟩,by omega⟩
   obtain⟨r1,r2,r3,r4⟩:=B9u hr hb hq n (k+1) _ (by omega) s2' hR s4;have e:A1a M0.cards C (x.a+1+k) (n+1)=A1a M0.cards {(F9 C (A6 C.M.W (x.a+1+k))).2 with M:=J3 (F9 C (A6 C.M.W (x.a+1+k))).2.M (x.a+1+k) (F9 C (A6 C.M.W (x.a+1+k))).1} (x.a+1+(k+1)) n:=by
    rw[A1a,hcard,hc];rfl
   rw[e];refine⟨⟨hin,fun _=>⟨c4,c5,c6,c7,c8,r1⟩,fun q=>(by rw[hcard,hc] at q;cases q)⟩,r2,fun p hp=>r3 p (s3 p hp),r4.trans ?_⟩;show (J3 _ _ _).roots=_;rw[(B0y _ _ _).2.2.2.2.2.2.1];exact s5
end
def B2w (was:List Bool):D9→List Int→Prop
 | C,[]=>True
 | C,a::l=>(0≤a∧a≤1000000∧a.toNat<C.M.W.length∧C.M.Ok∧G2 C.M∧P7 (A6 C.M.W a.toNat)=true)∧B2v was C (a.toNat+1) (B5 (A6 C.M.W a.toNat)).toNat∧B2w was (A1a was C (a.toNat+1) (B5 (A6 C.M.W a.toNat)).toNat) l
def B1e:Nat→D9→Prop
 | 0,C=>C.todo=[]
 | n+1,C =>
  match C.todo with
  | []=>True
  | a::t=>(0≤a∧a≤1000000∧a.toNat<C.M.W.length∧C.M.Ok∧G2 C.M∧P7 (A6 C.M.W a.toNat)=true)∧B1d {C with todo:=t} (a.toNat+1) (B5 (A6 C.M.W a.toNat)).toNat∧B1e n (A6a {C with todo:=t} (a.toNat+1) (B5 (A6 C.M.W a.toNat)).toNat)
def B5n (C:D9):Nat→Nat→Prop
 | _,0=>True
 | i,n+1=>(i<C.M.roots.length∧C.M.Ok∧G2 C.M)∧A7m C (C.M.roots.getD i 0)∧(0≤(F9 C (C.M.roots.getD i 0)).1∧(F9 C (C.M.roots.getD i 0)).1≤18446744073709551615)∧(F9 C (C.M.roots.getD i 0)).2.M.Ok∧G2 (F9 C (C.M.roots.getD i 0)).2.M ∧
   B5n {(F9 C (C.M.roots.getD i 0)).2 with M:={(F9 C (C.M.roots.getD i 0)).2.M with roots:=(F9 C (C.M.roots.getD i 0)).2.M.roots.set i (F9 C (C.M.roots.getD i 0)).1}} (i+1) n
def RO (M0:A7) (l:List Int) (i:Nat):Prop:=∃ a∈l,a.toNat+1≤i∧i<a.toNat+1+A9 M0.W a.toNat∧CT M0 i
def B3x (W:List Int) (lo hi:Nat):List Int:=((part W lo hi).1.filter fun x=>!D2 (B3 x.w)).map fun x=>(x.a:Int)
section
variable {M0:A7} {ten:Int} {C:D9} {R:Nat→Prop} {cl:Bool} {D:List Int}
theorem I8.ne_old (h:I8 M0 ten C R cl D) (hr:J8 M0 ten) {x:Ob} (hx:x∈(partO M0).1) {c:Int} (hc:c∈D++C.todo):c≠(x.a:Int):=fun e=>by
 obtain⟨a,q1,q2,_⟩:=h.todo_img hc;subst e;have hi:K9 M0 C.mv x.a x.a:=Or.inl ⟨rfl,Zv (f:=(·.a)) hx⟩;have ea:=h.inj hr (Or.inr q1) hi;subst ea;obtain⟨y,hy,ey⟩:=h.keyN q1;obtain⟨hh,e1,e2,e3,e4,e5,e6,e7,e8,e9,e10,e11,e12⟩:=hr.shp.nums;have r1:=hr.inN hy;have r2:=hr.inO hx;rcases e3 with⟨u1,u2,u3⟩|⟨u1,u2,u3⟩<;>omega
theorem D0b (hr:J8 M0 ten):∀ (l:List Int) (C:D9),(∀ a∈l,∃ x∈(partO M0).1,a=(x.a:Int)∧D2 (B3 (A6 M0.W x.a))=false)→l.Nodup→I8 M0 ten C (RO M0 l) true D →
  B2w M0.cards C l∧I8 M0 ten (A6l M0.cards C l) (fun _=>False) true D∧(∀ p∈C.mv,p∈(A6l M0.cards C l).mv)∧(A6l M0.cards C l).M.roots=C.M.roots
 | [],C,_,_,h=>⟨trivial,h.congrR fun i=>⟨fun ⟨a,ha,_⟩=>by simp at ha,False.elim⟩,fun p hp=>hp,rfl⟩
 | a::l,C,hl,hn,h=>by
  obtain⟨x,hx,rfl,hq⟩:=hl a (by simp);rw[Zy] at hn;have hb:x.a∈(partO M0).1.map (·.a):=Zv (f:=(·.a)) hx;have hr2:=hr.inO hx;obtain⟨hh,e1,e2,e3,e4,e5,e6,e7,e8,e9,e10,e11,e12⟩:=hr.shp.nums;have hi:K9 M0 C.mv x.a x.a:=Or.inl ⟨rfl,hb⟩;have hW:=h.hdO x hx;have hz:(B5 (A6 C.M.W x.a)).toNat=A9 M0.W x.a:=by rw[hW];rfl
  have h':=h.congrR (R':=fun i=>RO M0 l i∨(x.a+1+0≤i∧i<x.a+1+A9 M0.W x.a∧CT M0 i)) fun i=>by
   unfold RO;constructor
   ·rintro⟨c,hc,q1,q2,q3⟩;rcases Zs.1 hc with rfl|hc
    ·rw[Zc] at q1 q2;exact Or.inr ⟨q1,q2,q3⟩
    ·exact Or.inl ⟨c,hc,q1,q2,q3⟩
   ·rintro (⟨c,hc,q1,q2,q3⟩|⟨q1,q2,q3⟩)
    ·exact⟨c,by simp[hc],q1,q2,q3⟩
    ·exact⟨(x.a:Int),by simp,by rw[Zc];exact q1,by rw[Zc];exact q2,q3⟩
  have hR:∀ i,x.a+1≤i→i<x.a+1+A9 M0.W x.a→¬RO M0 l i:=fun i q1 q2 ⟨c,hc,q3,q4,_⟩=>by
   obtain⟨y,hy,rfl,_⟩:=hl c (by simp[hc]);rw[Zc] at q3 q4;have hne:x.a≠y.a:=fun e=>hn.1 (by rw[e];exact hc)
   rcases hr.laidO.apart hb (Zv (f:=(·.a)) hy) hne with r|r<;>omega
  obtain⟨c1,c2,c3,c4⟩:=B9u hr hb hq (A9 M0.W x.a) 0 C (by omega) h' hR fun c hc=>h.ne_old hr hx (Zr.2 (Or.inr hc))
  rw[Nat.add_zero] at c1 c2 c3 c4;obtain⟨d1,d2,d3,d4⟩:=D0b hr l _ (fun a ha=>hl a (by simp[ha])) hn.2 c2;unfold B2w A6l;simp only[Zc,hz];have hin:=h.inW hr hi;exact⟨⟨⟨by omega,by omega,by omega,h.ok,h.shp hr,by rw[hW];exact hr2.2.1⟩,c1,d1⟩,d2,fun p hp=>d3 p (c3 p hp),d4.trans c4⟩
theorem I8.vnodup (h:I8 M0 ten C R cl D) (hr:J8 M0 ten):(LFl M0 C.mv).Nodup:=by
 unfold LFl;have hk:=h.nodup;unfold List.Nodup at hk ⊢;rw[Zz] at hk ⊢;refine List.Pairwise.filter _ (List.Pairwise.imp_of_mem (fun {p q} hp hq' hpq e=>?_) hk);have key:∀ p∈C.mv,K9 M0 C.mv p.1.toNat p.2.toNat:=fun p hp=>Or.inr (by
  obtain⟨y,hy,e⟩:=h.keys p hp;rw[Zd (by omega),Zd (h.vals p hp)];exact hp)
 have h1:=key p hp;have h2:=key q hq';rw[e] at h1;exact hpq (h.inj hr h1 h2)
theorem I8.pop (h:I8 M0 ten C (fun _=>False) cl D) (hr:J8 M0 ten) {c:Int} {t:List Int} (e:C.todo=c::t) {a:Nat} (hs:A9 C.M.W c.toNat=A9 M0.W a) :
  I8 M0 ten {C with todo:=t} (fun i=>False∨(c.toNat+1+0≤i∧i<c.toNat+1+A9 M0.W a)) cl (D++[c]):=by
 have hp:∀ i,A3o {C with todo:=t} (fun i=>False∨(c.toNat+1+0≤i∧i<c.toNat+1+A9 M0.W a)) i↔A3o C (fun _=>False) i:=fun i=>by
  unfold A3o;rw[e];constructor
  ·rintro ((q|q)|⟨d,hd,q1,q2⟩)
   ·exact q.elim
   ·exact Or.inr ⟨c,by simp,by omega,by omega⟩
   ·exact Or.inr ⟨d,by simp[hd],q1,q2⟩
  ·rintro (q|⟨d,hd,q1,q2⟩)
   ·exact q.elim
   ·rcases Zs.1 hd with rfl|hd
    ·exact Or.inl (Or.inr ⟨by omega,by omega⟩)
    ·exact Or.inr ⟨d,hd,q1,q2⟩
 refine⟨h.like,h.ok,h.tenE,h.base,h.top0,h.oldT,h.tot,h.src,h.keys,h.nodup,h.vals,h.side,h.head,h.layN,h.layO,h.hdO,?_,?_,?_⟩
 ·intro a b hi k hk;obtain⟨q1,q2⟩:=h.fld a b hi k hk;exact⟨q1,fun hq=>⟨fun p=>(q2 hq).1 ((hp _).1 p),fun p=>(q2 hq).2 fun p'=>p ((hp _).2 p')⟩⟩
 ·intro a b hi k hk hq hb p hy;exact h.crd a b hi k hk hq hb (fun p'=>p ((hp _).2 p')) hy
 ·have:=h.todo;rw[e] at this;show LFl M0 C.mv=D++[c]++t;rw[this,List.append_assoc];rfl
theorem D2i (hr:J8 M0 ten):∀ (n:Nat) (C:D9) (D:List Int),I8 M0 ten C (fun _=>False) true D→M0.top.toNat≤n+D.length →
  B1e n C∧∃ D',I8 M0 ten (A7i n C) (fun _=>False) true D'∧(A7i n C).todo=[]∧(∀ p∈C.mv,p∈(A7i n C).mv)∧(A7i n C).M.roots=C.M.roots
 | 0,C,D,h,hn=>by
  have hl:=h.todo_len hr;have e:C.todo=[]:=List.eq_nil_of_length_eq_zero (by omega);exact⟨e,D,h,e,fun p hp=>hp,rfl⟩
 | n+1,C,D,h,hn=>by
  unfold B1e A7i
  cases e:C.todo with
  | nil=>exact⟨trivial,D,h,e,fun p hp=>hp,rfl⟩
  | cons c t =>
   obtain⟨a,q1,q2,q3⟩:=h.todo_img (b:=c) (by rw[e];simp);have hi:K9 M0 C.mv a c.toNat:=Or.inr (by rw[Zd q2];exact q1);obtain⟨d1,d2,d3,d4,d5⟩:=h.hd hr hi;have hp:=h.pop hr e d4;have hT:∀ d∈t,d≠((c.toNat:Nat):Int):=fun d hd he=>by
    have hv:=h.vnodup hr;rw[h.todo,e,Zx] at hv;have:=(Zy.1 hv.2.1).1;rw[Zd q2] at he;exact this (he ▸ hd)
   obtain⟨f1,f2,f3,f4⟩:=C5k (R:=fun _=>False) hr q3 (A9 M0.W a) 0 {C with todo:=t} (by omega) hp (fun _ _ _ q=>q) hi hT;rw[Nat.add_zero] at f1 f2 f3 f4;obtain⟨g1,D',g2,g3,g4,g5⟩:=D2i hr n _ _ f2 (by rw[List.length_append,List.length_singleton];omega);have hz:(B5 (A6 C.M.W c.toNat)).toNat=A9 M0.W a:=d4;simp only[hz];have hin:=h.inW hr hi;obtain⟨hh,e1,e2,e3,e4,e5,e6,e7,e8,e9,e10,e11,e12⟩:=hr.shp.nums;have hlw:=h.like.lenW;exact⟨⟨⟨q2,by omega,by omega,h.ok,h.shp hr,d2⟩,f1,g1⟩,D',g2,g3,fun p hp=>g4 p (f3 p hp),g5.trans f4⟩
theorem E9b {M:A7} (h:M.Ok) (i:Nat) {v:Int} (h0:0≤v) (h1:v≤18446744073709551615):({M with roots:=M.roots.set i v}:A7).Ok :=
 ⟨h.half,h.old,h.card,h.used,h.top,h.oldTop,h.W,fun x hx=>by
  rcases List.mem_or_eq_of_mem_set hx with q|q
  ·exact h.roots x q
  ·subst q;exact⟨h0,h1⟩,h.weak,h.ids,h.lenW,by rw[List.length_set];exact h.lenR,h.lenK,h.lenI,h.lenC⟩
theorem I8.setRoots (h:I8 M0 ten C R cl D) (i:Nat) {v:Int} (h0:0≤v) (h1:v≤18446744073709551615):I8 M0 ten {C with M:={C.M with roots:=C.M.roots.set i v}} R cl D :=
 ⟨⟨h.like.half,h.like.old,h.like.card,h.like.used,h.like.top,h.like.weak,h.like.ids,h.like.lenW,h.like.lenC⟩,E9b h.ok i h0 h1,h.tenE,h.base,h.top0,h.oldT,h.tot,h.src,h.keys,h.nodup,h.vals,h.side,h.head,h.layN,h.layO,h.hdO,h.fld,h.crd,h.todo⟩
theorem I8.setCards (h:I8 M0 ten C R false D) (cs:List Bool) (hl:cs.length=M0.cards.length):I8 M0 ten {C with M:={C.M with cards:=cs}} R true D :=
 ⟨⟨h.like.half,h.like.old,h.like.card,h.like.used,h.like.top,h.like.weak,h.like.ids,h.like.lenW,hl⟩,⟨h.ok.half,h.ok.old,h.ok.card,h.ok.used,h.ok.top,h.ok.oldTop,h.ok.W,h.ok.roots,h.ok.weak,h.ok.ids,h.ok.lenW,h.ok.lenR,h.ok.lenK,h.ok.lenI,by
  show cs.length≤_;rw[hl,←h.like.lenC];exact h.ok.lenC⟩,h.tenE,h.base,h.top0,h.oldT,h.tot,h.src,h.keys,h.nodup,h.vals,h.side,h.head,h.layN,h.layO,h.hdO,h.fld,fun a b hi k hk hq hb hp hy=>(by have:=(h.crd a b hi k hk hq hb hp hy).1;cases this),h.todo⟩
theorem C0j (l:List Int) (i j:Nat) (v:Int) (h:i≠j):(l.set i v).getD j 0=l.getD j 0:=by
 rw[Zi,Zi,Zl h]
theorem C5y (l:List Int) (i:Nat) (v:Int) (h:i<l.length):(l.set i v).getD i 0=v:=by
 rw[Zi,Zm h];rfl
theorem D1e (hr:J8 M0 ten):∀ (n i:Nat) (C:D9),i+n=M0.roots.length→I8 M0 ten C R cl D→C.M.roots.length=M0.roots.length→(∀ j,i≤j→j<M0.roots.length→C.M.roots.getD j 0=M0.roots.getD j 0) →
  (∀ j,j<i→Fol M0 C.mv (M0.roots.getD j 0) (C.M.roots.getD j 0)) →
  B5n C i n∧I8 M0 ten (A9q C i n) R cl D∧(A9q C i n).M.roots.length=M0.roots.length∧(∀ j,j<M0.roots.length→Fol M0 (A9q C i n).mv (M0.roots.getD j 0) ((A9q C i n).M.roots.getD j 0))∧(A9q C i n).M.cards=C.M.cards
 | 0,i,C,hn,h,hl,h1,h2=>⟨trivial,h,hl,fun j hj=>h2 j (by omega),rfl⟩
 | n+1,i,C,hn,h,hl,h1,h2=>by
  have hu:=h1 i (Nat.le_refl _) (by omega);have hg:=(K5 (L8 hr.chk).1).2.2.1;have hf:D0 (C6 M0) (C.M.roots.getD i 0)=true:=by
   rw[hu];unfold J6 at hg;rw[Ze] at hg;exact Y1 hg (by omega)
  have hw:=Y1 (P:=fun x=>0≤x∧x≤18446744073709551615) h.ok.roots (i:=i) (by omega);obtain⟨f1,f2,f3,f4,f5,f6,f7⟩:=C5s h hr hf;have hv:=C5r (C:=C) hw.1 hw.2;have s2:=f2.setRoots i hv.1 hv.2;have hfm:∀ {u v:Int},Fol M0 C.mv u v→Fol M0 (F9 C (C.M.roots.getD i 0)).2.mv u v:=fun {u v} hf=>by
   rcases hf with q|⟨q1,to,q2,q3⟩
   ·exact Or.inl q
   ·exact Or.inr ⟨q1,to,B7j f2.nodupI (f6 _ (B7i q2)),q3⟩
  rw[hu] at f3;obtain⟨r1,r2,r3,r4,r5⟩:=D1e hr n (i+1) _ (by omega) s2 (by show (List.set _ _ _).length=_;rw[List.length_set,f4];exact hl)
   (fun j hj hj2=>by show (List.set _ _ _).getD j 0=_;rw[C0j _ _ _ _ (by omega),f4];exact h1 j (by omega) hj2)
   (fun j hj=>by
    show Fol M0 (F9 C _).2.mv _ ((List.set _ _ _).getD j 0);by_cases e:j=i
    ·subst e;rw[C5y _ _ _ (by rw[f4];omega)];rw[hu];exact f3
    ·rw[C0j _ _ _ _ (by omega),f4];exact hfm (h2 j (by omega)))
  exact⟨⟨⟨by omega,h.ok,h.shp hr⟩,f1,hv,f2.ok,f2.shp hr,r1⟩,r2,r3,r4,r5.trans f5⟩
theorem E0w (hr:J8 M0 ten):∀ a∈A2g M0,∃ x∈(partO M0).1,a=(x.a:Int)∧D2 (B3 (A6 M0.W x.a))=false:=fun a ha=>by
 obtain⟨x,hx,rfl⟩:=Zu.1 ha;obtain⟨hx1,hx2⟩:=Zt.1 hx;have e:(2*M0.half+M0.oldTop).toNat=(2*M0.half).toNat+M0.oldTop.toNat:=by
  have:=hr.shp.h1;have:=hr.shp.p1;omega
 rw[e] at hx1;have hx':x∈(partO M0).1:=hx1;refine⟨x,hx',rfl,?_⟩;rw[(hr.inO hx').1] at hx2;simpa using hx2
theorem E0v (hr:J8 M0 ten):(A2g M0).Nodup:=by
 have hn:=hr.laidO.nodup;have e:(2*M0.half+M0.oldTop).toNat=(2*M0.half).toNat+M0.oldTop.toNat:=by
  have:=hr.shp.h1;have:=hr.shp.p1;omega
 unfold A2g;rw[e];unfold List.Nodup at hn ⊢;rw[Zz] at hn ⊢;exact List.Pairwise.filter _ (hn.imp fun h1 h2=>h1 (by omega))
theorem F6b (hr:J8 M0 ten):I8 M0 ten (A3y M0 ten) (RO M0 (A2g M0)) false []:=by
 obtain⟨hh,e1,e2,e3,e4,e5,e6,e7,e8,e9,e10,e11,e12⟩:=hr.shp.nums;have hcm:=(L8 hr.chk).2;have key:∀ a b,K9 M0 (A3y M0 ten).mv a b→a=b∧a∈(partO M0).1.map (·.a):=fun a b hi=>by
  rcases hi with q|q
  ·exact q
  ·simp[A3y] at q
 have young:∀ b,b∈(partO M0).1.map (·.a)→∀ k,k<A9 M0.W b→D2 (B3 (A6 M0.W b))=false→¬A3o (A3y M0 ten) (RO M0 (A2g M0)) (b+1+k)→J5 M0 (A6 M0.W (b+1+k))=false:=fun b hb k hk hq hp=>by
  obtain⟨x,hx,rfl⟩:=Zu.1 hb;have hxi:=hr.inO hx;have hmem:(x.a:Int)∈A2g M0:=by
   unfold A2g;have e:(2*M0.half+M0.oldTop).toNat=(2*M0.half).toNat+M0.oldTop.toNat:=by omega
   rw[e];exact Zu.2 ⟨x,Zt.2 ⟨hx,by rw[hxi.1,hq];rfl⟩,rfl⟩
  have hct:¬CT M0 (x.a+1+k):=fun hc=>hp (Or.inl ⟨_,hmem,by rw[Zc];omega,by rw[Zc];omega,hc⟩)
  unfold A0p at hcm;rw[Ze] at hcm;have hc:=hcm x (Zr.2 (Or.inr hx));unfold A1r at hc;rw[hxi.1,hq,Zb] at hc;unfold A2v at hc;rw[Ze] at hc;have hc':=hc k (List.mem_range.2 (by unfold Ob.n;rw[hxi.1];exact hk));unfold crd at hc';have ho:L4 M0 (x.a:Int)=true:=by unfold L4;exact decide_eq_true (by have:=hxi.2.2.1;unfold D1 at this;omega)
  rw[ho,Bool.true_and] at hc'
  cases hy:J5 M0 (A6 M0.W (x.a+1+k)) with
  | false=>rfl
  | true =>
   rw[hy] at hc';have:A0e M0 ((x.a:Int)+1+k)=true:=by simpa using hc'
   exfalso;apply hct;unfold CT A1q;unfold A0e at this;rw[show ((x.a+1+k:Nat):Int)=(x.a:Int)+1+k by omega];exact this
 refine⟨A3n.refl _,hr.ok,rfl,?_,Int.le_refl _,Int.le_refl _,?_,fun _ _ _=>rfl,fun p hp=>by simp[A3y] at hp,by simp[A3y],fun p hp=>by simp[A3y] at hp,fun p hp=>by simp[A3y] at hp,fun p hp=>by simp[A3y] at hp,?_,?_,fun _ _=>rfl,?_,?_,rfl⟩
 ·show (1-M0.used)*M0.half=_;rcases e3 with⟨u1,u2,u3⟩|⟨u1,u2,u3⟩<;>rw[u2,u3,e1]<;>omega
 ·show (0:Int)+(M0.oldTop-M0.oldTop)=_;simp[A3y]
 ·exact rfl
 ·exact rfl
 ·intro a b hi k hk;obtain⟨rfl,hb⟩:=key a b hi;refine⟨fun _=>rfl,fun hq=>⟨fun _=>rfl,fun hp=>Or.inl ⟨?_,rfl⟩⟩⟩;unfold stays;rw[young a hb k hk hq hp];rfl
 ·intro a b hi k hk hq hb' hp hy;obtain⟨rfl,hb⟩:=key a b hi;have hy':J5 M0 (A6 M0.W (a+1+k))=true:=hy;rw[young a hb k hk hq hp] at hy';cases hy'
end
def A1d (M:A7) (ten:Int):D9:=A9q (A3y M ten) 0 M.roots.length
def B1o (M:A7) (ten:Int):D9:={A1d M ten with M:={(A1d M ten).M with cards:=List.replicate M.cards.length false}}
def A7v (M:A7) (ten:Int):D9:=A6l M.cards (B1o M ten) (A2g M)
def R9 (M:A7) (ten:Int):D9:=A7i M.top.toNat (A7v M ten)
def A5j (M:A7) (ten:Int):A7:={(R9 M ten).M with weak:=A0u (R9 M ten),ids:=A3s (R9 M ten),used:=1-M.used,top:=(R9 M ten).top}
theorem C4k {M0:A7} {ten:Int} (hr:J8 M0 ten) :
  (B5n (A3y M0 ten) 0 M0.roots.length∧B2w M0.cards (B1o M0 ten) (A2g M0)∧B1e M0.top.toNat (A7v M0 ten)) ∧
  (A1d M0 ten).M.cards=M0.cards∧part (A1d M0 ten).M.W (D1 M0) (D1 M0+M0.oldTop.toNat)=partO M0∧A3n M0 (A1d M0 ten).M∧(A1d M0 ten).M.Ok∧G2 (A1d M0 ten).M ∧
  ∃ D,I8 M0 ten (R9 M0 ten) (fun _=>False) true D∧(R9 M0 ten).todo=[]∧(R9 M0 ten).M.roots.length=M0.roots.length∧∀ j,j<M0.roots.length→Fol M0 (R9 M0 ten).mv (M0.roots.getD j 0) ((R9 M0 ten).M.roots.getD j 0):=by
 obtain⟨r1,r2,r3,r4,r5⟩:=D1e hr M0.roots.length 0 (A3y M0 ten) (by omega) (F6b hr) rfl (fun _ _ _=>rfl) (fun j hj=>absurd hj (by omega));have s2:=r2.setCards (List.replicate M0.cards.length false) (by simp);obtain⟨o1,o2,o3,o4⟩:=D0b hr (A2g M0) (B1o M0 ten) (E0w hr) (E0v hr) s2;obtain⟨t1,D,t2,t3,t4,t5⟩:=D2i hr M0.top.toNat (A7v M0 ten) [] o2 (by simp);have hro:(R9 M0 ten).M.roots=(A1d M0 ten).M.roots:=t5.trans o4;refine⟨⟨r1,o1,t1⟩,r5,?_,r2.like,r2.ok,r2.shp hr,D,t2,t3,by rw[hro];exact r3,fun j hj=>?_⟩
 ·have hl:N7 (A1d M0 ten).M.W (D1 M0) ((partO M0).1.map (·.a)) (D1 M0+M0.oldTop.toNat):=hr.laidO.congr fun b hb=>by
   obtain⟨x,hx,rfl⟩:=Zu.1 hb;exact r2.hdO x hx
  rw[hl.part];have h2:(partO M0).2=true:=(B0v hr.objs).2;refine Prod.ext ?_ h2.symm;show List.map (D4 (A1d M0 ten).M.W) (List.map (·.a) (partO M0).1)=(partO M0).1;rw[Zp];refine (List.map_congr_left fun x hx=>?_).trans (List.map_id _);show D4 _ x.a=x;unfold D4;rw[show A6 (A1d M0 ten).M.W x.a=A6 M0.W x.a from r2.hdO x hx,←(hr.inO hx).1]
 ·rw[hro];rcases r4 j hj with q|⟨q1,to,q2,q3⟩
  ·exact Or.inl q
  ·exact Or.inr ⟨q1,to,B7j t2.nodupI (t4 _ (o3 _ (B7i q2))),q3⟩
end Go.Proofs.YtelhoppfidibiaaGreatDoor
