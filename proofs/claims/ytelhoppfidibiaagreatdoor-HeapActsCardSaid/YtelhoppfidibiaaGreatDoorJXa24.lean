/- What a right memory is, part by part; a new object laid behind a part: plainly. -/
import Derived.Test.YtelhoppfidibiaaGreatDoorJXa23
import Derived.Stop.Asserts
set_option linter.unusedSimpArgs false
set_option linter.unusedVariables false
set_option maxHeartbeats 1000000
set_option maxRecDepth 100000
namespace Go.Proofs.YtelhoppfidibiaaGreatDoor
open Go.RowKit
open Bool renaming false_or→Za,or_eq_true→Zb
open List renaming all_eq_true→Zc,contains_iff_mem→Zd,getD_eq_getElem?_getD→Ze,length_filterMap_le→Zf,length_map→Zg,length_replicate→Zh,map_append→Zi,map_congr_left→Zj,map_map→Zk,mem_append→Zl,mem_append_left→Zm,mem_append_right→Zn,mem_filterMap→Zo,mem_map→Zp,mem_or_eq_of_mem_set→Zq,mem_range→Zr,mem_singleton→Zs
open Nat renaming le_refl→Zt,zero_le→Zu
open Option renaming map_eq_some_iff→Zv
open Go.Proofs.Tryz renaming prog→Zw
def stL (lN lO:List Nat):List Int:=(lN++lO).map fun (a:Nat)=>(a:Int)
theorem D1v {lN lO:List Nat} {b:Nat}:F8 (stL lN lO) (b:Int)=true↔b∈lN++lO:=by
 rw[A9k];unfold stL;rw[Zp];constructor
 ·rintro⟨c,hc,e⟩;have e2:c=b:=by omega
  subst e2;exact hc
 ·exact fun h=>⟨b,h,rfl⟩
theorem C6s {st st':List Int} (hs:∀ x∈st,x∈st') {a:Int} (h:F8 st a=true):F8 st' a=true:=by
 rw[A9k] at h ⊢;exact hs _ h
theorem B0l {st st':List Int} (hs:∀ x∈st,x∈st') {u:Int} (h:D0 st u=true):D0 st' u=true:=by
 unfold D0 at h ⊢
 split at h
 ·rename_i h0;rw[if_pos h0];rw[Zb] at h ⊢;rcases h with h|h
  ·exact Or.inl h
  ·exact Or.inr (C6s hs h)
 ·rename_i h0;rw[if_neg h0];exact h
structure L7 (M:A7) (lN lO:List Nat):Prop where
 shp:G2 M
 n:N7 M.W M.base lN (M.base+M.top.toNat)
 o:N7 M.W (2*M.half).toNat lO ((2*M.half).toNat+M.oldTop.toNat)
 hd:∀ b∈lN++lO,L3 M (D4 M.W b)=true
 fld:∀ b∈lN++lO,D2 (B3 (A6 M.W b))=false→∀ j,j<A9 M.W b→D0 (stL lN lO) (A6 M.W (b+1+j))=true
 roots:∀ x∈M.roots,D0 (stL lN lO) x=true
 weak:∀ x∈M.weak,D0 (stL lN lO) x=true
 ids:T0 (stL lN lO) [] M.ids=true
 crd:∀ b∈lN++lO,D2 (B3 (A6 M.W b))=false→∀ j,j<A9 M.W b→crd M (D4 M.W b) j=true
section
variable {M:A7} {lN lO:List Nat}
theorem L7.partN (h:L7 M lN lO):partN M=(lN.map (D4 M.W),true):=h.n.part
theorem L7.partO (h:L7 M lN lO):partO M=(lO.map (D4 M.W),true):=h.o.part
theorem L7.all (h:L7 M lN lO):D8 M=(lN++lO).map (D4 M.W):=by
 unfold D8;rw[h.partN,h.partO,Zi]
theorem L7.starts (h:L7 M lN lO):C6 M=stL lN lO:=by
 unfold C6 stL;rw[h.all,Zk];rfl
theorem L7.goodB (h:L7 M lN lO):goodB M=true:=by
 have hob:M9 M (L3 M)=true:=by
  have hall:(D8 M).all (L3 M)=true:=by
   rw[Zc,h.all];intro y hy;obtain⟨b,hb,rfl⟩:=Zp.1 hy;exact h.hd b hb
  unfold D8 at hall;rw[List.all_append,Bool.and_eq_true] at hall;unfold M9;rw[hall.1,hall.2,h.partN,h.partO];rfl
 have hro:J6 (C6 M) M.roots=true:=by unfold J6;rw[Zc,h.starts];exact h.roots
 have hwk:J6 (C6 M) M.weak=true:=by unfold J6;rw[Zc,h.starts];exact h.weak
 have hfl:(D8 M).all (R2 M (C6 M))=true:=by
  rw[Zc,h.all,h.starts];intro y hy;obtain⟨b,hb,rfl⟩:=Zp.1 hy;unfold R2
  cases hq:D2 (B3 (D4 M.W b).w) with
  | true=>rfl
  | false =>
   rw[Za];unfold J6 flds;rw[Zc];intro v hv;obtain⟨k,hk,rfl⟩:=Zp.1 hv;exact h.fld b hb hq k (Zr.1 hk)
 unfold Go.Proofs.YtelhoppfidibiaaGreatDoor.goodB;rw[C2q h.shp,hob,hro,hwk,hfl,h.starts,h.ids];rfl
theorem L7.chk (h:L7 M lN lO):chk M=0:=by
 have hcd:A0p M=true:=by
  unfold A0p;rw[Zc,h.all];intro y hy;obtain⟨b,hb,rfl⟩:=Zp.1 hy;unfold A1r
  cases hq:D2 (B3 (D4 M.W b).w) with
  | true=>rfl
  | false =>
   rw[Za];unfold A2v;rw[Zc];intro k hk;exact h.crd b hb hq k (Zr.1 hk)
 unfold Go.Proofs.YtelhoppfidibiaaGreatDoor.chk;rw[h.goodB,hcd];rfl
theorem A4r (h:chk M=0):∃ lN lO,L7 M lN lO:=by
 obtain⟨hg,hc⟩:=L8 h;obtain⟨hs,hob,hro,hwk,hfo,hid⟩:=K5 hg;obtain⟨h1,h2⟩:=B0v hob;have l1:N7 M.W M.base ((Go.Proofs.YtelhoppfidibiaaGreatDoor.partN M).1.map (·.a)) (M.base+M.top.toNat):=B4g h1 (by omega);have l2:N7 M.W (2*M.half).toNat ((Go.Proofs.YtelhoppfidibiaaGreatDoor.partO M).1.map (·.a)) ((2*M.half).toNat+M.oldTop.toNat):=B4g h2 (by omega);obtain⟨lN,e1⟩:∃ l,l=(Go.Proofs.YtelhoppfidibiaaGreatDoor.partN M).1.map (·.a):=⟨_,rfl⟩;obtain⟨lO,e2⟩:∃ l,l=(Go.Proofs.YtelhoppfidibiaaGreatDoor.partO M).1.map (·.a):=⟨_,rfl⟩;rw[←e1] at l1;rw[←e2] at l2;have p1:Go.Proofs.YtelhoppfidibiaaGreatDoor.partN M=(lN.map (D4 M.W),true):=l1.part;have p2:Go.Proofs.YtelhoppfidibiaaGreatDoor.partO M=(lO.map (D4 M.W),true):=l2.part;have ea:D8 M=(lN++lO).map (D4 M.W):=by unfold D8;rw[p1,p2,Zi]
 have es:C6 M=stL lN lO:=by unfold C6 stL;rw[ea,Zk];rfl
 have hm:∀ b∈lN++lO,D4 M.W b∈D8 M:=fun b hb=>by rw[ea];exact List.mem_map_of_mem hb
 refine⟨lN,lO,hs,l1,l2,fun b hb=>?_,fun b hb hr j hj=>?_,fun x hx=>?_,fun x hx=>?_,?_,fun b hb hr j hj=>?_⟩
 ·have:=C9r (q:=L3 M) hob;rw[hob] at this;exact Zc.1 this.symm _ (hm b hb)
 ·have:=Zc.1 hfo _ (hm b hb);unfold R2 at this;rw[show D2 (B3 (D4 M.W b).w)=false from hr,Za,es] at this;exact Zc.1 this _ (Zp.2 ⟨j,Zr.2 hj,rfl⟩)
 ·rw[←es];exact Zc.1 hro x hx
 ·rw[←es];exact Zc.1 hwk x hx
 ·rw[←es];exact hid
 ·have:=Zc.1 hc _ (hm b hb);unfold A1r at this;rw[show D2 (B3 (D4 M.W b).w)=false from hr,Za] at this;exact Zc.1 this _ (Zr.2 hj)
theorem L7.new_ (h:L7 M lN lO) (M':A7) (lN' lO':List Nat) (a:Nat) (fs:List Int) (kind:Int)
  (e1:M'.half=M.half) (e2:M'.cards=M.cards) (e3:M'.card=M.card) (e4:M'.roots=M.roots) (e5:M'.weak=M.weak) (e6:M'.ids=M.ids)
  (shp':G2 M') (hn:N7 M'.W M'.base lN' (M'.base+M'.top.toNat)) (ho:N7 M'.W (2*M'.half).toNat lO' ((2*M'.half).toNat+M'.oldTop.toNat))
  (hm:∀ b,b∈lN'++lO'↔b∈lN++lO∨b=a) (out:∀ b∈lN++lO,∀ i,i≤A9 M.W b→A6 M'.W (b+i)=A6 M.W (b+i))
  (hdw:A6 M'.W a=J7 kind 0 0 fs.length) (fsw:∀ j,j<fs.length→A6 M'.W (a+1+j)=fs.getD j 0)
  (hk:0≤kind∧kind≤255) (hnn:fs.length≤4096)
  (hf:D2 kind=false→∀ x∈fs,D0 (stL lN' lO') x=true∧(L4 M (a:Int)=true→J5 M x=false)):L7 M' lN' lO':=by
 obtain⟨d1,d2,d3,d4,d5⟩:=A1t kind 0 0 fs.length hk (by omega) (by omega) ⟨by omega,by omega⟩;have hsub:∀ x∈stL lN lO,x∈stL lN' lO':=fun x hx=>by
  obtain⟨b,hb,rfl⟩:=Zp.1 hx;exact List.mem_map_of_mem ((hm b).2 (Or.inl hb))
 have w0:∀ b∈lN++lO,A6 M'.W b=A6 M.W b:=fun b hb=>out b hb 0 (Zu _)
 have s0:∀ b∈lN++lO,A9 M'.W b=A9 M.W b:=fun b hb=>by unfold A9;rw[w0 b hb]
 have sa:A9 M'.W a=fs.length:=by unfold A9;rw[hdw,d5];omega
 have hfld:∀ b∈lN++lO,∀ j,j<A9 M.W b→A6 M'.W (b+1+j)=A6 M.W (b+1+j):=fun b hb j hj=>by
  have:=out b hb (1+j) (by omega);rw[←Nat.add_assoc] at this;exact this
 have fsm:∀ j,j<fs.length→fs.getD j 0∈fs:=fun j hj=>by
  rw[Ze,List.getElem?_eq_getElem hj];exact List.getElem_mem hj
 have oB:∀ x,L4 M' x=L4 M x:=fun x=>by unfold L4;rw[e1]
 have yB:∀ x,J5 M' x=J5 M x:=fun x=>by unfold J5;rw[oB]
 have cB:∀ x,A0e M' x=A0e M x:=fun x=>by unfold A0e;rw[e1,e2,e3]
 refine⟨shp',hn,ho,fun b hb=>?_,fun b hb hr j hj=>?_,fun x hx=>?_,fun x hx=>?_,?_,fun b hb hr j hj=>?_⟩
 ·rcases (hm b).1 hb with hb|rfl
  ·have:=h.hd b hb;unfold L3 D4 at this ⊢;simp only at this ⊢;rw[w0 b hb,oB];exact this
  ·unfold L3 D4;simp only;rw[hdw,d3,d4];rfl
 ·rcases (hm b).1 hb with hb|rfl
  ·rw[w0 b hb] at hr;rw[s0 b hb] at hj;rw[hfld b hb j hj];exact B0l hsub (h.fld b hb hr j hj)
  ·rw[hdw,d2] at hr;rw[sa] at hj;rw[fsw j hj];exact (hf hr _ (fsm j hj)).1
 ·rw[e4] at hx;exact B0l hsub (h.roots x hx)
 ·rw[e5] at hx;exact B0l hsub (h.weak x hx)
 ·rw[e6];have h0:=(A4t _ _ _).1 h.ids;rw[A4t];exact⟨fun x hx=>⟨⟨(h0.1 x hx).1.1,(h0.1 x hx).1.2.1,C6s hsub (h0.1 x hx).1.2.2.1,(h0.1 x hx).1.2.2.2⟩,fun y hy=>by simp at hy⟩,h0.2⟩
 ·unfold Go.Proofs.YtelhoppfidibiaaGreatDoor.crd;rcases (hm b).1 hb with hb|rfl
  ·rw[w0 b hb] at hr;rw[s0 b hb] at hj;have:=h.crd b hb hr j hj;unfold Go.Proofs.YtelhoppfidibiaaGreatDoor.crd at this;rw[oB,yB,cB,show (D4 M'.W b).a=b from rfl,hfld b hb j hj];exact this
  ·rw[hdw,d2] at hr;rw[sa] at hj;rw[oB,yB,show (D4 M'.W b).a=b from rfl,fsw j hj]
   cases ho:L4 M (b:Int) with
   | false=>rfl
   | true=>rw[(hf hr _ (fsm j hj)).2 ho];rfl
end
def A2k (W:List Int) (a:Nat) (kind:Int) (fs:List Int):List Int:=splice (W.set a (J7 kind 0 0 fs.length)) (a+1) fs
theorem B2c (W:List Int) (a:Nat) (kind:Int) (fs:List Int) (h:a+1+fs.length≤W.length):(A2k W a kind fs).length=W.length:=by
 unfold A2k;rw[length_splice _ _ _ (by simp;omega)];simp
theorem B7p (W:List Int) (a:Nat) (kind:Int) (fs:List Int) (h:a+1+fs.length≤W.length) (i:Nat) (hi:i<a∨a+1+fs.length≤i):A6 (A2k W a kind fs) i=A6 W i:=by
 unfold A2k;rw[B1c _ _ _ _ (by simp;omega),if_neg (by omega),A2r _ _ _ _ (by omega)]
theorem B7o (W:List Int) (a:Nat) (kind:Int) (fs:List Int) (h:a+1+fs.length≤W.length):A6 (A2k W a kind fs) a=J7 kind 0 0 fs.length:=by
 unfold A2k;rw[B1c _ _ _ _ (by simp;omega),if_neg (by omega),A6q _ _ _ (by omega)]
theorem B7n (W:List Int) (a:Nat) (kind:Int) (fs:List Int) (h:a+1+fs.length≤W.length) (j:Nat) (hj:j<fs.length):A6 (A2k W a kind fs) (a+1+j)=fs.getD j 0:=by
 unfold A2k;rw[B1c _ _ _ _ (by simp;omega),if_pos (by omega)];congr 1;omega
def A6x (M:A7) (kind:Int) (fs:List Int):A7:={M with W:=A2k M.W (M.base+M.top.toNat) kind fs,top:=M.top+1+fs.length}
def A6y (M:A7) (kind:Int) (fs:List Int):A7:={M with W:=A2k M.W ((2*M.half).toNat+M.oldTop.toNat) kind fs,oldTop:=M.oldTop+1+fs.length}
theorem C7u {W:List Int} {a n:Nat} {kind:Int} (hk:0≤kind∧kind≤255) (hn:n≤4096) (h:A6 W a=J7 kind 0 0 n):N7 W a [a] (a+1+n):=by
 obtain⟨d1,d2,d3,d4,d5⟩:=A1t kind 0 0 n hk (by omega) (by omega) ⟨by omega,by omega⟩;refine⟨rfl,by rw[h];exact d1,?_⟩;show a+1+A9 W a=_;unfold A9;rw[h,d5];omega
section
variable {M:A7} {lN lO:List Nat}
theorem L7.newN (h:L7 M lN lO) (kind:Int) (fs:List Int) (hk:0≤kind∧kind≤255) (hn:fs.length≤4096) (hr:M.top+1+fs.length≤M.half)
  (hf:D2 kind=false→∀ x∈fs,D0 (stL (lN++[M.base+M.top.toNat]) lO) x=true):L7 (A6x M kind fs) (lN++[M.base+M.top.toNat]) lO:=by
 have hs:=h.shp;have h1:=hs.h1;have h2:=hs.t2;have h5:=hs.base;have h7:=hs.t1;have h8:=hs.w;have h9:=hs.p2;have h10:=hs.p1;have h11:=hs.o1;have hw:M.base+M.top.toNat+1+fs.length≤M.W.length:=by omega
 have hto:(M.top+1+fs.length).toNat=M.top.toNat+1+fs.length:=by omega
 have rn:=fun b hb=>h.n.mem b hb
 have ro:=fun b hb=>h.o.mem b hb
 have out:∀ b∈lN++lO,∀ i,i≤A9 M.W b→A6 (A6x M kind fs).W (b+i)=A6 M.W (b+i):=fun b hb i hi=>by
  refine B7p _ _ _ _ hw _ ?_;rcases Zl.1 hb with hb|hb
  ·have:=(rn b hb).2.1;omega
  ·have:=(ro b hb).1;omega
 have hd':=B7o M.W (M.base+M.top.toNat) kind fs hw;refine h.new_ (A6x M kind fs) (lN++[M.base+M.top.toNat]) lO (M.base+M.top.toNat) fs kind rfl rfl rfl rfl rfl rfl ⟨hs.h1,hs.h2,hs.o1,hs.o2,hs.c1,hs.c2,?_,hs.u1,hs.u2,?_,hr,hs.p1,hs.p2,hs.cl⟩ ?_ ?_ ?_ out hd' (fun j hj=>B7n _ _ _ _ hw j hj) hk hn ?_
 ·show (((A2k M.W (M.base+M.top.toNat) kind fs).length:Nat):Int)=_;rw[B2c _ _ _ _ hw];exact hs.w
 ·show 0≤M.top+1+fs.length;omega
 ·show N7 (A6x M kind fs).W M.base _ (M.base+(M.top+1+fs.length).toNat);rw[hto];refine N7.app (m:=M.base+M.top.toNat) (h.n.congr fun b hb=>out b (Zm _ hb) 0 (Zu _)) ?_;have:=C7u hk hn hd';rw[show M.base+(M.top.toNat+1+fs.length)=M.base+M.top.toNat+1+fs.length by omega];exact this
 ·exact h.o.congr fun b hb=>out b (Zn _ hb) 0 (Zu _)
 ·intro b;simp only[Zl,Zs];constructor
  ·rintro ((h|h)|h)
   ·exact Or.inl (Or.inl h)
   ·exact Or.inr h
   ·exact Or.inl (Or.inr h)
  ·rintro ((h|h)|h)
   ·exact Or.inl (Or.inl h)
   ·exact Or.inr h
   ·exact Or.inl (Or.inr h)
 ·intro hq x hx;refine⟨hf hq x hx,fun ho=>?_⟩;have:=of_decide_eq_true ho;omega
theorem L7.newO (h:L7 M lN lO) (kind:Int) (fs:List Int) (hk:0≤kind∧kind≤255) (hn:fs.length≤4096) (hr:M.oldTop+1+fs.length≤M.old)
  (hf:D2 kind=false→∀ x∈fs,D0 (stL lN (lO++[(2*M.half).toNat+M.oldTop.toNat])) x=true∧J5 M x=false):L7 (A6y M kind fs) lN (lO++[(2*M.half).toNat+M.oldTop.toNat]):=by
 have hs:=h.shp;have h1:=hs.h1;have h2:=hs.t2;have h5:=hs.base;have h7:=hs.t1;have h8:=hs.w;have h9:=hs.p2;have h10:=hs.p1;have h11:=hs.o1;have hw:(2*M.half).toNat+M.oldTop.toNat+1+fs.length≤M.W.length:=by omega
 have hto:(M.oldTop+1+fs.length).toNat=M.oldTop.toNat+1+fs.length:=by omega
 have rn:=fun b hb=>h.n.mem b hb
 have ro:=fun b hb=>h.o.mem b hb
 have out:∀ b∈lN++lO,∀ i,i≤A9 M.W b→A6 (A6y M kind fs).W (b+i)=A6 M.W (b+i):=fun b hb i hi=>by
  refine B7p _ _ _ _ hw _ ?_;rcases Zl.1 hb with hb|hb
  ·have:=(rn b hb).2.1;omega
  ·have:=(ro b hb).2.1;omega
 have hd':=B7o M.W ((2*M.half).toNat+M.oldTop.toNat) kind fs hw;refine h.new_ (A6y M kind fs) lN (lO++[(2*M.half).toNat+M.oldTop.toNat]) ((2*M.half).toNat+M.oldTop.toNat) fs kind rfl rfl rfl rfl rfl rfl ⟨hs.h1,hs.h2,hs.o1,hs.o2,hs.c1,hs.c2,?_,hs.u1,hs.u2,hs.t1,hs.t2,?_,hr,hs.cl⟩ ?_ ?_ ?_ out hd' (fun j hj=>B7n _ _ _ _ hw j hj) hk hn ?_
 ·show (((A2k M.W ((2*M.half).toNat+M.oldTop.toNat) kind fs).length:Nat):Int)=_;rw[B2c _ _ _ _ hw];exact hs.w
 ·show 0≤M.oldTop+1+fs.length;omega
 ·exact h.n.congr fun b hb=>out b (Zm _ hb) 0 (Zu _)
 ·show N7 (A6y M kind fs).W (2*M.half).toNat _ ((2*M.half).toNat+(M.oldTop+1+fs.length).toNat);rw[hto];refine N7.app (m:=(2*M.half).toNat+M.oldTop.toNat) (h.o.congr fun b hb=>out b (Zn _ hb) 0 (Zu _)) ?_;have:=C7u hk hn hd';rw[show (2*M.half).toNat+(M.oldTop.toNat+1+fs.length)=(2*M.half).toNat+M.oldTop.toNat+1+fs.length by omega];exact this
 ·intro b;simp only[Zl,Zs,or_assoc]
 ·intro hq x hx;exact⟨(hf hq x hx).1,fun _=>(hf hq x hx).2⟩
theorem L7.apart (h:L7 M lN lO) {b c:Nat} (hb:b∈lN++lO) (hc:c∈lN++lO) (hn:b≠c):b+1+A9 M.W b≤c∨c+1+A9 M.W c≤b:=by
 have hs:=h.shp;have h1:=hs.h1;have h2:=hs.t2;have h5:=hs.base;have h7:=hs.t1;rcases Zl.1 hb with hb|hb
 ·rcases Zl.1 hc with hc|hc
  ·exact h.n.apart hb hc hn
  ·have a1:=(h.n.mem b hb).2.1;have a2:=(h.o.mem c hc).1;omega
 ·rcases Zl.1 hc with hc|hc
  ·have a1:=(h.o.mem b hb).1;have a2:=(h.n.mem c hc).2.1;omega
  ·exact h.o.apart hb hc hn
theorem L7.inW (h:L7 M lN lO) {b:Nat} (hb:b∈lN++lO):b+1+A9 M.W b≤M.W.length:=by
 have hs:=h.shp;have h1:=hs.h1;have h2:=hs.t2;have h5:=hs.base;have h7:=hs.t1;have h8:=hs.w;have h9:=hs.p2;have h10:=hs.p1;have h11:=hs.o1;rcases Zl.1 hb with hb|hb
 ·have a1:=(h.n.mem b hb).2.1;omega
 ·have a1:=(h.o.mem b hb).2.1;omega
theorem L7.raw_ (h:L7 M lN lO) {b:Nat} (hb:b∈lN++lO) (hr:D2 (B3 (A6 M.W b))=true) (V:List Int) (hl:V.length=M.W.length) (hV:∀ i,¬(b+1≤i∧i<b+1+A9 M.W b)→A6 V i=A6 M.W i):L7 {M with W:=V} lN lO:=by
 have w0:∀ c∈lN++lO,A6 V c=A6 M.W c:=fun c hc=>hV c fun q=>by
  by_cases e:c=b
  ·omega
  ·have:=h.apart hb hc (Ne.symm e);omega
 have s0:∀ c∈lN++lO,A9 V c=A9 M.W c:=fun c hc=>by unfold A9;rw[w0 c hc]
 have f0:∀ c∈lN++lO,D2 (B3 (A6 M.W c))=false→∀ j,j<A9 M.W c→A6 V (c+1+j)=A6 M.W (c+1+j):=fun c hc hq j hj=>hV _ fun q=>by
  by_cases e:c=b
  ·subst e;rw[hr] at hq;cases hq
  ·have:=h.apart hb hc (Ne.symm e);omega
 refine⟨⟨h.shp.h1,h.shp.h2,h.shp.o1,h.shp.o2,h.shp.c1,h.shp.c2,by show ((V.length:Nat):Int)=_;rw[hl];exact h.shp.w,h.shp.u1,h.shp.u2,h.shp.t1,h.shp.t2,h.shp.p1,h.shp.p2,h.shp.cl⟩,
  h.n.congr fun c hc=>w0 c (Zm _ hc),h.o.congr fun c hc=>w0 c (Zn _ hc),fun c hc=>?_,fun c hc hq j hj=>?_,h.roots,h.weak,h.ids,fun c hc hq j hj=>?_⟩
 ·have:=h.hd c hc;unfold L3 D4 at this ⊢;simp only at this ⊢;rw[w0 c hc];exact this
 ·simp only at hq hj ⊢;rw[w0 c hc] at hq;rw[s0 c hc] at hj;rw[f0 c hc hq j hj];exact h.fld c hc hq j hj
 ·simp only at hq hj;rw[w0 c hc] at hq;rw[s0 c hc] at hj;have:=h.crd c hc hq j hj;unfold Go.Proofs.YtelhoppfidibiaaGreatDoor.crd at this ⊢;simp only[show ∀ V c,(D4 V c).a=c from fun _ _=>rfl] at this ⊢;rw[f0 c hc hq j hj];exact this
theorem L7.setRoot (h:L7 M lN lO) (r:Nat) (x:Int) (hx:D0 (stL lN lO) x=true):L7 {M with roots:=M.roots.set r x} lN lO :=
 ⟨⟨h.shp.h1,h.shp.h2,h.shp.o1,h.shp.o2,h.shp.c1,h.shp.c2,h.shp.w,h.shp.u1,h.shp.u2,h.shp.t1,h.shp.t2,h.shp.p1,h.shp.p2,h.shp.cl⟩,h.n,h.o,h.hd,h.fld,fun y hy=>by
  rcases Zq hy with q|q
  ·exact h.roots y q
  ·rw[q];exact hx,h.weak,h.ids,h.crd⟩
theorem L7.addWeak (h:L7 M lN lO) (x:Int) (hx:D0 (stL lN lO) x=true):L7 {M with weak:=M.weak++[x]} lN lO :=
 ⟨⟨h.shp.h1,h.shp.h2,h.shp.o1,h.shp.o2,h.shp.c1,h.shp.c2,h.shp.w,h.shp.u1,h.shp.u2,h.shp.t1,h.shp.t2,h.shp.p1,h.shp.p2,h.shp.cl⟩,h.n,h.o,h.hd,h.fld,h.roots,fun y hy=>by
  rcases Zl.1 hy with q|q
  ·exact h.weak y q
  ·rw[Zs.1 q];exact hx,h.ids,h.crd⟩
theorem L7.addId (h:L7 M lN lO) (x:Int) (s:Int) (h0:C7 x=0) (h1:x≠0) (hx:D0 (stL lN lO) x=true) (hs:1≤s) (hn:∀ y∈M.ids,y.1≠x∧y.2≠s):L7 {M with ids:=M.ids++[(x,s)]} lN lO :=
 ⟨⟨h.shp.h1,h.shp.h2,h.shp.o1,h.shp.o2,h.shp.c1,h.shp.c2,h.shp.w,h.shp.u1,h.shp.u2,h.shp.t1,h.shp.t2,h.shp.p1,h.shp.p2,h.shp.cl⟩,h.n,h.o,h.hd,h.fld,h.roots,h.weak,by
  obtain⟨g1,g2⟩:=(A4t _ _ _).1 h.ids;refine (A4t _ _ _).2 ⟨fun y hy=>?_,?_⟩
  ·refine⟨?_,fun z hz=>by simp at hz⟩;rcases Zl.1 hy with q|q
   ·exact (g1 y q).1
   ·rw[Zs.1 q];refine⟨h0,h1,?_,hs⟩;unfold D0 at hx;rw[if_pos h0,Zb] at hx;rcases hx with hx|hx
    ·exact absurd (by simpa using hx) h1
    ·exact hx
  ·rw[List.pairwise_append];exact⟨g2,List.pairwise_singleton _ _,fun a ha b hb=>by rw[Zs.1 hb];exact hn a ha⟩,h.crd⟩
theorem E1l (half old card:Int) (h:1≤half∧half≤65536) (h2:1≤old∧old≤65536) (h3:1≤card∧card≤1024) (roots:List Int) (hr:∀ x∈roots,D0 [] x=true) :
  L7 ⟨half,old,card,List.replicate (2*half+old).toNat 0,0,0,0,roots,[],[],List.replicate ((old+card-1)/card).toNat false⟩ [] []:=by
 have q0:0≤(old+card-1)/card:=Int.ediv_nonneg (by omega) (by omega);refine⟨⟨h.1,h.2,h2.1,h2.2,h3.1,h3.2,?_,by simp,by simp,by simp,?_,by simp,?_,?_⟩,?_,?_,by simp,by simp,?_,by simp,rfl,by simp⟩
 ·simp only[Zh];omega
 ·show (0:Int)≤half;omega
 ·show (0:Int)≤old;omega
 ·simp only[Zh];omega
 ·show _=_;simp[A7.base]
 ·show _=_;simp
 ·exact hr
end
def HL (hb b:Nat) (S:C8) (k:Nat):Prop:=k=hb∨G1 b S k
structure E7 (w:World) (B hb b:Nat) (M:A7) (S:C8) (ten nx:Int):Prop where
 mem:B7 w B b 140 M S
 hB:B≤hb
 blk:∃ cur t,w.heap[hb]?=some (.cells cur t (0,0))
 ptr:w.cell? ⟨hb,0,none⟩=some (.pointer (some ⟨b,0,none⟩))
 tn:w.cell? ⟨hb,1,none⟩=some (.int .i64 ten)
 nxt:w.cell? ⟨hb,2,none⟩=some (.int .i64 nx)
 ne:¬G1 b S hb
structure D7 (hb b:Nat) (w:World) (S:C8) (w':World) (S':C8):Prop where
 keep:A8 (HL hb b S) w w'
 own:∀ k,HL hb b S' k→HL hb b S k∨w.heap.size≤k
theorem D7.trans_ {hb b:Nat} {w w1 w2:World} {S S1 S2:C8} (h:D7 hb b w S w1 S1) (k:D7 hb b w1 S1 w2 S2):D7 hb b w S w2 S2 :=
 ⟨h.keep.then_ k.keep (fun i hi hl=>by rcases h.own i hl with q|q;exact q;omega),fun i hi=>by
  rcases k.own i hi with q|q
  ·exact h.own i q
  ·exact Or.inr (by have:=h.keep.size;omega)⟩
theorem D7.of_ext {hb b:Nat} {w w':World} {S:C8} (h:A0 w w'):D7 hb b w S w' S:=⟨A8.of_ext h,fun _ q=>Or.inl q⟩
section
variable {w w':World} {B hb b:Nat} {M M':A7} {S S':C8} {ten nx:Int}
theorem E7.lt (h:E7 w B hb b M S ten nx):hb<w.heap.size:=B9 h.ptr
theorem E7.hbs (h:E7 w B hb b M S ten nx):B≤w.heap.size:=by have:=h.hB;have:=h.lt;omega
theorem E7.own (h:E7 w B hb b M S ten nx) {k:Nat} (hk:HL hb b S k):B≤k∧k<w.heap.size:=by
 rcases hk with rfl|hk
 ·exact⟨h.hB,h.lt⟩
 ·exact B7.own_size h.mem hk
theorem E7.frozen (h:E7 w B hb b M S ten nx) (j:Nat):w.frozen? ⟨hb,j,none⟩=false:=by
 obtain⟨cur,t,hc⟩:=h.blk;simp[World.frozen?,hc]
theorem E7.step (h:E7 w B hb b M S ten nx) (hO:B7 w' B b 140 M' S') (hk:A8 (G1 b S) w w') (hs:∀ k,G1 b S' k→G1 b S k∨w.heap.size≤k) :
  E7 w' B hb b M' S' ten nx∧D7 hb b w S w' S':=by
 have hlt:=h.lt;refine⟨⟨hO,h.hB,?_,hk.cell (p:=⟨hb,0,none⟩) h.ne h.ptr,hk.cell (p:=⟨hb,1,none⟩) h.ne h.tn,hk.cell (p:=⟨hb,2,none⟩) h.ne h.nxt,fun e=>?_⟩,⟨⟨hk.os,hk.tape,hk.output,hk.size,fun k hlk hn=>hk.block k hlk (fun e=>hn (Or.inr e))⟩,fun k hkk=>?_⟩⟩
 ·rw[hk.block hb hlt h.ne];exact h.blk
 ·rcases hs hb e with q|q
  ·exact h.ne q
  ·omega
 ·rcases hkk with q|q
  ·exact Or.inl (Or.inl q)
  ·rcases hs k q with r|r
   ·exact Or.inl (Or.inr r)
   ·exact Or.inr r
theorem E7.ext (h:E7 w B hb b M S ten nx) (hx:A0 w w'):E7 w' B hb b M S ten nx :=
 (h.step (OM.ext h.mem hx) (A8.of_ext hx) fun _ q=>Or.inl q).1
end
def R8 (w:World) (B hb b:Nat) (S:C8) (ten:Int) (M':A7) (nx':Int) (v:Value) (e:Ending) (w':World):Prop :=
 e=.returned v∧∃ S',E7 w' B hb b M' S' ten nx'∧D7 hb b w S w' S'
def A1x (M:A7):Int:=if (O4 M:Int)≤M.old then 0 else 6
def A1y (M:A7):A7:=if (O4 M:Int)≤M.old then O5 M else M
def A4f (M:A7):Int:=if M.top≤M.old-M.oldTop then 0 else A1x M
def A4x (M:A7) (ten:Int):A7:=if M.top≤M.old-M.oldTop then A5j M ten else A1y M
structure D6 (M:A7) (nx:Int):Prop where
 ok:M.Ok
 chk:chk M=0
 nx1:1≤nx
 ids:∀ x∈M.ids,x.2<nx
structure Q8 (M N:A7):Prop where
 half:N.half=M.half
 old:N.old=M.old
 card:N.card=M.card
 roots:N.roots.length=M.roots.length
 weak:N.weak.length=M.weak.length
 ids:N.ids.length≤M.ids.length
theorem Q8.refl (M:A7):Q8 M M:=⟨rfl,rfl,rfl,rfl,rfl,Zt _⟩
theorem Q8.trans {M N K:A7} (h:Q8 M N) (k:Q8 N K):Q8 M K :=
 ⟨k.half.trans h.half,k.old.trans h.old,k.card.trans h.card,k.roots.trans h.roots,k.weak.trans h.weak,Nat.le_trans k.ids h.ids⟩
section
variable {M:A7} {ten nx:Int}
theorem D6.full (h:D6 M nx) (hl:(O4 M:Int)≤M.old):I7 M:=⟨h.ok,h.chk,hl⟩
theorem D7q (hr:J8 M ten) (h:D6 M nx):D6 (A5j M ten) nx∧Q8 M (A5j M ten):=by
 have hf:=B5z hr;obtain⟨D,hv⟩:=hf.inv;rw[C4j];refine⟨⟨hf.ok hr,hf.chk hr,h.nx1,fun x hx=>?_⟩,⟨hv.like.half,hv.like.old,hv.like.card,hf.rootsL,?_,?_⟩⟩
 ·obtain⟨u,hu,e⟩:=Zo.1 (show x∈A3s (R9 M ten) from hx)
  split at e
  ·injection e with e;subst e;rw[hv.like.ids] at hu;exact h.ids u hu
  ·cases e
 ·show (A0u (R9 M ten)).length=_;unfold A0u;rw[Zg,hv.like.weak]
 ·show (A3s (R9 M ten)).length≤_;unfold A3s;rw[hv.like.ids];exact Zf _ _
theorem E5m (hl:(O4 M:Int)≤M.old) (h:D6 M nx):D6 (O5 M) nx∧Q8 M (O5 M):=by
 have hf:=h.full hl;refine⟨⟨hf.okN,hf.chkN,h.nx1,fun x hx=>?_⟩,⟨rfl,rfl,rfl,by unfold O5;simp,by unfold O5;simp,by unfold O5;exact Zf _ _⟩⟩;obtain⟨u,hu,e⟩:=Zo.1 (show x∈M.ids.filterMap _ from hx)
 split at e
 ·injection e with e;subst e;exact h.ids u hu
 ·cases e
theorem C1n (h:D6 M nx):D6 (A1y M) nx∧Q8 M (A1y M):=by
 unfold A1y
 split
 ·exact E5m (by assumption) h
 ·exact⟨h,Q8.refl M⟩
theorem C8o (ht:0≤ten∧ten≤15) (h:D6 M nx):D6 (A4x M ten) nx∧Q8 M (A4x M ten):=by
 unfold A4x
 split
 ·exact D7q ⟨h.ok,h.chk,ht,by assumption⟩ h
 ·exact C1n h
theorem C8y {W:List Int} (hW:∀ x∈W,0≤x∧x≤18446744073709551615) {a:Nat} {kind:Int} {fs:List Int} (hk:0≤kind∧kind≤255) (hn:fs.length≤4096) (hf:∀ x∈fs,0≤x∧x≤18446744073709551615):∀ x∈A2k W a kind fs,0≤x∧x≤18446744073709551615:=fun x hx=>by
 rcases C2w hx with q|q
 ·rcases Zq q with q|q
  ·exact hW x q
  ·subst q;exact E2b kind 0 0 (fs.length:Int) hk (by omega) (by omega) ⟨by omega,by omega⟩
 ·exact hf x q
theorem E7s (h:D6 M nx) (kind:Int) (fs:List Int) (hk:0≤kind∧kind≤255) (hn:fs.length≤4096) (hr:M.top+1+fs.length≤M.half) (hu:∀ x∈fs,0≤x∧x≤18446744073709551615)
  (hf:D2 kind=false→∀ x∈fs,D0 [] x=true):D6 (A6x M kind fs) nx∧Q8 M (A6x M kind fs)∧∃ lN lO,L7 (A6x M kind fs) lN lO∧M.base+M.top.toNat∈lN++lO:=by
 obtain⟨lN,lO,hg⟩:=A4r h.chk;have hG:=hg.newN kind fs hk hn hr fun hq x hx=>B0l (by simp) (hf hq x hx)
 have hs:=hg.shp;have h1:=hs.h1;have h2:=hs.t2;have h5:=hs.base;have h7:=hs.t1;have h8:=hs.w;have h9:=hs.p2;have h10:=hs.p1;have h11:=hs.o1;have h12:=hs.h2;have hw:M.base+M.top.toNat+1+fs.length≤M.W.length:=by omega
 refine⟨⟨⟨h.ok.half,h.ok.old,h.ok.card,h.ok.used,?_,h.ok.oldTop,C8y h.ok.W hk hn hu,h.ok.roots,h.ok.weak,h.ok.ids,?_,h.ok.lenR,h.ok.lenK,h.ok.lenI,h.ok.lenC⟩,hG.chk,h.nx1,h.ids⟩,⟨rfl,rfl,rfl,rfl,rfl,Zt _⟩,_,_,hG,by simp⟩
 ·show _≤M.top+1+fs.length∧M.top+1+fs.length≤_;omega
 ·show (A2k M.W (M.base+M.top.toNat) kind fs).length≤_;rw[B2c _ _ _ _ hw];exact h.ok.lenW
theorem E7t (h:D6 M nx) (kind:Int) (fs:List Int) (hk:0≤kind∧kind≤255) (hn:fs.length≤4096) (hr:M.oldTop+1+fs.length≤M.old) (hu:∀ x∈fs,0≤x∧x≤18446744073709551615)
  (hf:D2 kind=false→∀ x∈fs,D0 [] x=true∧C7 x≠0):D6 (A6y M kind fs) nx∧Q8 M (A6y M kind fs)∧∃ lN lO,L7 (A6y M kind fs) lN lO∧(2*M.half).toNat+M.oldTop.toNat∈lN++lO:=by
 obtain⟨lN,lO,hg⟩:=A4r h.chk;have hG:=hg.newO kind fs hk hn hr fun hq x hx=>⟨B0l (by simp) (hf hq x hx).1,by
  unfold J5;have:=(hf hq x hx).2;rw[show (C7 x==0)=false by simpa using this];rfl⟩
 have hs:=hg.shp;have h1:=hs.h1;have h2:=hs.t2;have h5:=hs.base;have h7:=hs.t1;have h8:=hs.w;have h9:=hs.p2;have h10:=hs.p1;have h11:=hs.o1;have h12:=hs.o2;have hw:(2*M.half).toNat+M.oldTop.toNat+1+fs.length≤M.W.length:=by omega
 refine⟨⟨⟨h.ok.half,h.ok.old,h.ok.card,h.ok.used,h.ok.top,?_,C8y h.ok.W hk hn hu,h.ok.roots,h.ok.weak,h.ok.ids,?_,h.ok.lenR,h.ok.lenK,h.ok.lenI,h.ok.lenC⟩,hG.chk,h.nx1,h.ids⟩,⟨rfl,rfl,rfl,rfl,rfl,Zt _⟩,_,_,hG,by simp⟩
 ·show _≤M.oldTop+1+fs.length∧M.oldTop+1+fs.length≤_;omega
 ·show (A2k M.W ((2*M.half).toNat+M.oldTop.toNat) kind fs).length≤_;rw[B2c _ _ _ _ hw];exact h.ok.lenW
theorem A7e (h:D6 M nx) {lN lO:List Nat} (hg:L7 M lN lO) (r:Nat) (x:Int) (hu:0≤x∧x≤18446744073709551615) (hx:D0 (stL lN lO) x=true):D6 {M with roots:=M.roots.set r x} nx∧Q8 M {M with roots:=M.roots.set r x} :=
 ⟨⟨⟨h.ok.half,h.ok.old,h.ok.card,h.ok.used,h.ok.top,h.ok.oldTop,h.ok.W,fun y hy=>by
  rcases Zq hy with q|q
  ·exact h.ok.roots y q
  ·rw[q];exact hu,h.ok.weak,h.ok.ids,h.ok.lenW,by simpa using h.ok.lenR,h.ok.lenK,h.ok.lenI,h.ok.lenC⟩,(hg.setRoot r x hx).chk,h.nx1,h.ids⟩,⟨rfl,rfl,rfl,by simp,rfl,Zt _⟩⟩
theorem C2h (h:D6 M nx) {lN lO:List Nat} (hg:L7 M lN lO) {b:Nat} (hb:b∈lN++lO) (hr:D2 (B3 (A6 M.W b))=true) (V:List Int) (hl:V.length=M.W.length) (hV:∀ i,¬(b+1≤i∧i<b+1+A9 M.W b)→A6 V i=A6 M.W i)
  (hu:∀ x∈V,0≤x∧x≤18446744073709551615):D6 {M with W:=V} nx∧Q8 M {M with W:=V}∧L7 {M with W:=V} lN lO :=
 ⟨⟨⟨h.ok.half,h.ok.old,h.ok.card,h.ok.used,h.ok.top,h.ok.oldTop,hu,h.ok.roots,h.ok.weak,h.ok.ids,by show V.length≤_;rw[hl];exact h.ok.lenW,h.ok.lenR,h.ok.lenK,h.ok.lenI,h.ok.lenC⟩,(hg.raw_ hb hr V hl hV).chk,h.nx1,h.ids⟩,⟨rfl,rfl,rfl,rfl,rfl,Zt _⟩,hg.raw_ hb hr V hl hV⟩
theorem F8n (h:D6 M nx) {lN lO:List Nat} (hg:L7 M lN lO) (x:Int) (hu:0≤x∧x≤18446744073709551615) (hx:D0 (stL lN lO) x=true) (hl:M.weak.length≤1000000):D6 {M with weak:=M.weak++[x]} nx :=
 ⟨⟨h.ok.half,h.ok.old,h.ok.card,h.ok.used,h.ok.top,h.ok.oldTop,h.ok.W,h.ok.roots,fun y hy=>by
  rcases Zl.1 hy with q|q
  ·exact h.ok.weak y q
  ·rw[Zs.1 q];exact hu,h.ok.ids,h.ok.lenW,h.ok.lenR,by simp;omega,h.ok.lenI,h.ok.lenC⟩,(hg.addWeak x hx).chk,h.nx1,h.ids⟩
theorem E2w (h:D6 M nx) {lN lO:List Nat} (hg:L7 M lN lO) (x:Int) (hu:0≤x∧x≤18446744073709551615) (h0:C7 x=0) (h1:x≠0) (hx:D0 (stL lN lO) x=true) (hl:M.ids.length≤1000000) (hn:nx≤1000000) (hf:∀ y∈M.ids,y.1≠x) :
  D6 {M with ids:=M.ids++[(x,nx)]} (nx+1):=by
 have:=h.nx1;refine⟨⟨h.ok.half,h.ok.old,h.ok.card,h.ok.used,h.ok.top,h.ok.oldTop,h.ok.W,h.ok.roots,h.ok.weak,fun y hy=>?_,h.ok.lenW,h.ok.lenR,h.ok.lenK,by simp;omega,h.ok.lenC⟩,(hg.addId x nx h0 h1 hx h.nx1 fun y hy=>⟨hf y hy,fun e=>by have:=h.ids y hy;omega⟩).chk,by omega,fun y hy=>?_⟩
 ·rcases Zl.1 hy with q|q
  ·exact h.ok.ids y q
  ·rw[Zs.1 q];exact⟨hu,by simp only;omega⟩
 ·rcases Zl.1 hy with q|q
  ·have:=h.ids y q;omega
  ·rw[Zs.1 q];simp only;omega
end
structure A7q (M N:A7) (go:Int→Int × Bool) (D:Nat→Prop) (f:Nat→Nat):Prop where
 kept:∃ all,B9e all M N go D f
 back:∀ u a,D0 (C6 M) u=true→B6 u=((a:Nat):Int)→D a→(go u).2=true
 obj:∀ a,D a→f a∈(D8 N).map (·.a)
theorem B0w {u:Int} {a:Nat} (h:B6 u=(a:Int)):C7 u=0∧u≠0∧C9 u=(a:Int):=by
 unfold B6 at h
 split at h
 ·rename_i hc;exact⟨hc.1,hc.2.1,h⟩
 ·omega
theorem C1q {M:A7} {ten:Int} (hr:J8 M ten):A7q M (A5j M ten) (O0 (R9 M ten)) (B1f M (R9 M ten)) (goC M (R9 M ten)):=by
 have hf:=B5z hr;obtain⟨p1,p2⟩:=hf.parts hr;obtain⟨Dn,hv⟩:=hf.inv;refine⟨⟨_,E6f hr⟩,fun u a hu hp ⟨b,hi⟩=>?_,fun a hd=>?_⟩
 ·obtain⟨k1,k2,k3⟩:=B0w hp;unfold O0;rw[hv.like.stays]
  cases hs:stays M u with
  | true=>rfl
  | false =>
   simp only[Bool.false_eq_true,if_false];rcases hi with⟨rfl,hm⟩|hm
   ·exfalso;obtain⟨x,hx,ex⟩:=Zp.1 hm;have r1:=hr.inO hx;obtain⟨hh,e1,e2,e3,e4,e5,e6,e7,e8,e9,e10,e11,e12⟩:=hr.shp.nums;unfold stays J5 L4 at hs;rw[k3,k1] at hs;simp[k2] at hs;omega
   ·rw[k3,B7j hv.nodupI hm]
 ·have hi:=hf.img hr hd;show _∈(D8 (P9 M (R9 M ten))).map (·.a);unfold D8;rw[p1,p2,Zi];have hid:∀ l:List Nat,(l.map (D4 (R9 M ten).M.W)).map (·.a)=l:=fun l=>by
   rw[Zk];exact (Zj fun x _=>rfl).trans (List.map_id l)
  simp only[hid];rcases hi with⟨e,hm⟩|hm
  ·rw[←e];exact Zl.2 (Or.inr (Zl.2 (Or.inl hm)))
  ·by_cases hsd:2*M.half≤(((goC M (R9 M ten) a:Nat)):Int)
   ·exact Zl.2 (Or.inr (Zl.2 (Or.inr (Zp.2 ⟨_,List.mem_filter.2 ⟨hm,by simpa using hsd⟩,by simp⟩))))
   ·exact Zl.2 (Or.inl (Zp.2 ⟨_,List.mem_filter.2 ⟨hm,by simpa using hsd⟩,by simp⟩))
theorem C1o {M:A7} (h:I7 M):A7q M (O5 M) (Q0 M) (Z7 M) (N6 M):=by
 obtain⟨p1,p2⟩:=h.parts;refine⟨⟨_,h.kept⟩,fun u a hu hp hd=>?_,fun a hd=>?_⟩
 ·obtain⟨k1,k2,k3⟩:=B0w hp;unfold Q0;rw[if_neg (fun q=>by rcases q with q|q;exact q k1;exact k2 q),if_pos];rw[k3];obtain⟨o,ho,e⟩:=Zp.1 hd;exact Zd.2 (Zp.2 ⟨o,ho,by show (o.a:Int)=_;rw[←e]⟩)
 ·unfold D8;rw[p1,p2];have hid:∀ l:List Nat,(l.map (D4 (O9 M))).map (·.a)=l:=fun l=>by
   rw[Zk];exact (Zj fun x _=>rfl).trans (List.map_id l)
  simp only[List.nil_append,hid];exact Zp.2 ⟨_,A7h hd,rfl⟩
theorem Q6.comp {f g:Nat→Nat} {D E:Nat→Prop} {u v w:Int} (h:Q6 f D u v) (k:Q6 g E v w):Q6 (fun a=>g (f a)) (fun a=>D a∧E (f a)) u w:=by
 rcases h with⟨h1,h2⟩|⟨a,h1,h2,h3,h4,h5,h6,h7⟩
 ·subst h2;rcases k with⟨k1,k2⟩|⟨b,k1,_⟩
  ·exact Or.inl ⟨h1,k2⟩
  ·omega
 ·rcases k with⟨k1,k2⟩|⟨b,k1,k2,k3,k4,k5,k6,k7⟩
  ·omega
  ·obtain rfl:f a=b:=by omega
   exact Or.inr ⟨a,h1,⟨h2,k2⟩,k3,h4,h5,k6,k7⟩
theorem Q6.mono {f g:Nat→Nat} {D E:Nat→Prop} {u v:Int} (h:Q6 f D u v) (k:∀ a,D a→E a∧g a=f a):Q6 g E u v:=by
 rcases h with h|⟨a,h1,h2,h3,h4⟩
 ·exact Or.inl h
 ·exact Or.inr ⟨a,h1,(k a h2).1,by rw[(k a h2).2];exact h3,h4⟩
theorem A0m.comp {U V W:List Int} {f g:Nat→Nat} {D E:Nat→Prop} (h:A0m U V D f) (k:A0m V W E g):A0m U W (fun a=>D a∧E (f a)) (fun a=>g (f a)):=by
 refine⟨fun a b ha hb e=>h.inj a b ha.1 hb.1 (k.inj _ _ ha.2 hb.2 e),fun a ha=>(k.kind _ ha.2).trans (h.kind a ha.1),fun a ha=>(k.size _ ha.2).trans (h.size a ha.1),fun a ha hr i hi=>?_,fun a ha hr i hi=>?_⟩
 ·have hs:A9 V (f a)=A9 U a:=by unfold A9;rw[h.size a ha.1]
  exact (h.fld a ha.1 hr i hi).comp (k.fld (f a) ha.2 (by rw[h.kind a ha.1];exact hr) i (by rw[hs];exact hi))
 ·have hs:A9 V (f a)=A9 U a:=by unfold A9;rw[h.size a ha.1]
  rw[k.raw (f a) ha.2 (by rw[h.kind a ha.1];exact hr) i (by rw[hs];exact hi)];exact h.raw a ha.1 hr i hi
theorem D0x (W:List Int):∀ (n n2 k:Nat) (out:List Ob),(reachG W n k out).length≤k+n→(reachG W n k out).length≤k+n2→reachG W n2 k out=reachG W n k out
 | 0,n2,k,out,h1,h2=>by
  have hl:out.length≤k:=by simpa [reachG] using h1
  have e:out[k]?=none:=List.getElem?_eq_none hl
  cases n2 with
  | zero=>rfl
  | succ n2=>show reachG W (n2+1) k out=out;unfold reachG;rw[e]
 | n+1,n2,k,out,h1,h2=>by
  cases e:out[k]? with
  | none =>
   have q1:reachG W (n+1) k out=out:=by unfold reachG;rw[e]
   rw[q1]
   cases n2 with
   | zero=>rfl
   | succ n2=>unfold reachG;rw[e]
  | some o =>
   have q1:reachG W (n+1) k out=reachG W n (k+1) (V7 W out o):=by conv=>lhs;unfold reachG;rw[e]
   rw[q1] at h1 h2 ⊢
   cases n2 with
   | zero =>
    exfalso;obtain⟨hk,_⟩:=List.getElem?_eq_some_iff.1 e;obtain⟨t,ht⟩:=B8i W out o;obtain⟨s,hs⟩:=B4t W n (k+1) (V7 W out o);rw[hs,ht,List.length_append,List.length_append] at h2;omega
   | succ n2 =>
    have q2:reachG W (n2+1) k out=reachG W n2 (k+1) (V7 W out o):=by conv=>lhs;unfold reachG;rw[e]
    rw[q2];exact D0x W n n2 (k+1) _ (by omega) (by omega)
structure B4 where
 V:List Int
 P:List Nat
 roots:List Int
 weak:List Int
 ids:List (Int × Int)
def K4 (I:B4):List Ob:=reachG I.V I.V.length 0 (M8 I.V [] I.roots)
def A1w (I:B4):Nat:=((K4 I).map fun o=>1+o.n).sum
structure K7 (I:B4) (M:A7) (D:Nat→Prop) (f:Nat→Nat):Prop where
 morph:A0m I.V M.W D f
 dom:∀ a,D a→a+1+A9 I.V a≤I.V.length
 apart:∀ a b,D a→D b→a<b→a+1+A9 I.V a≤b
 obj:∀ a,D a→f a∈(D8 M).map (·.a)
 lenR:I.roots.length=M.roots.length
 roots:∀ i,i<I.roots.length→Q6 f D (I.roots.getD i 0) (M.roots.getD i 0)
 lenK:I.weak.length=M.weak.length
 weak:∀ i,i<I.weak.length→Q6 f D (I.weak.getD i 0) (M.weak.getD i 0)∨(M.weak.getD i 0=2∧∃ a:Nat,B6 (I.weak.getD i 0)=(a:Int)∧¬D a)
 ids1:∀ u s,(u,s)∈I.ids→∀ a:Nat,B6 u=(a:Int)→D a→∃ v,Q6 f D u v∧(v,s)∈M.ids
 ids2:∀ v s,(v,s)∈M.ids→∃ u,(u,s)∈I.ids∧Q6 f D u v
 wkV:∀ i,i<I.weak.length→B6 (I.weak.getD i 0)<(I.V.length:Int)
 idV:∀ u s,(u,s)∈I.ids→B6 u<(I.V.length:Int)
 nodes:∀ a,D a→a∈I.P
theorem C5p {M:A7} (hg:goodB M=true) {u:Int} (hf:D0 (C6 M) u=true) (h1:C7 u=0) (h2:u≠0):∃ a:Nat,B6 u=(a:Int)∧a∈(D8 M).map (·.a):=by
 have hs:=(K5 hg).1;have hin:C9 u∈C6 M:=by
  unfold D0 at hf;rw[if_pos h1] at hf;simp only[Zb,beq_iff_eq] at hf;rcases hf with q|q
  ·exact absurd q h2
  ·exact Zd.1 q
 obtain⟨x,hx,e⟩:=Zp.1 hin;have l1:=(A2z hs hx).1;have l2:=A3u hs;refine⟨x.a,?_,Zp.2 ⟨x,hx,rfl⟩⟩;unfold B6;rw[if_pos ⟨h1,h2,by unfold C9 at e;omega⟩];exact e.symm
theorem A7q.two {M N:A7} {go:Int→Int × Bool} {E:Nat→Prop} {g:Nat→Nat} (hm:A7q M N go E g):go 2=(2,true):=by
 obtain⟨all,hk⟩:=hm.kept;have hf:D0 (C6 M) 2=true:=by unfold D0;simp[C7]
 have h2:(go 2).2=true:=by
  cases hc:(go 2).2 with
  | true=>rfl
  | false =>
   have:=(hk.no 2 hf hc).1;simp[A1j] at this
 rcases hk.yes 2 hf h2 with⟨_,e⟩|⟨a,h3,_⟩
 ·exact Prod.ext e h2
 ·simp[B6,C7] at h3
theorem C6r {M:A7} (hg:goodB M=true) {v s:Int} (h:(v,s)∈M.ids):D0 (C6 M) v=true∧C7 v=0∧v≠0∧1≤s:=by
 have h1:=(((A4t _ _ _).1 (K5 hg).2.2.2.2.2).1 _ h).1;obtain⟨a1,a2,a3,a4⟩:=h1;refine⟨?_,a1,a2,a4⟩;unfold D0;rw[if_pos a1,a3];simp
section
variable {I:B4} {M:A7} {D:Nat→Prop} {f:Nat→Nat}
theorem K7.reach (h:K7 I M D f) (hg:goodB M=true):F5 M=(K4 I).map (fun o=>D4 M.W (f o.a))∧InD I.V D (K4 I)∧(K4 I).length≤I.V.length∧((K4 I).map (·.a)).Nodup:=by
 obtain⟨s1,s2⟩:=B6c h.morph I.roots M.roots [] (fun o ho=>by simp at ho) h.lenR h.roots;have s1':M8 M.W [] M.roots=(M8 I.V [] I.roots).map (fun o=>D4 M.W (f o.a)):=s1;obtain⟨r1,r2⟩:=C2j h.morph M.W.length 0 _ s2;have e1:F5 M=(reachG I.V M.W.length 0 (M8 I.V [] I.roots)).map (fun o=>D4 M.W (f o.a)):=by unfold F5;rw[s1',r1]
 have hga:=A7c hg;have l1:(F5 M).length≤M.W.length:=Nat.le_trans hga.len (B7v (K5 hg).1);have l2:(reachG I.V M.W.length 0 (M8 I.V [] I.roots)).length=(F5 M).length:=by rw[e1,Zg]
 have hnd:((reachG I.V M.W.length 0 (M8 I.V [] I.roots)).map (·.a)).Nodup:=by
   have:=hga.nodup;rw[e1,Zk] at this;unfold List.Nodup at this ⊢;rw[List.pairwise_map] at this ⊢;exact this.imp fun {a b} hab e=>hab (by show f a.a=f b.a;rw[e])
 have l3:(F5 M).length≤I.V.length:=by
  rw[←l2];have hnd:((reachG I.V M.W.length 0 (M8 I.V [] I.roots)).map (·.a)).Nodup:=by
   have:=hga.nodup;rw[e1,Zk] at this;unfold List.Nodup at this ⊢;rw[List.pairwise_map] at this ⊢;exact this.imp fun {a b} hab e=>hab (by show f a.a=f b.a;rw[e])
  have:=B2a _ (List.range I.V.length) hnd fun a ha=>by
   obtain⟨o,ho,rfl⟩:=Zp.1 ha;exact Zr.2 (by have:=h.dom _ (r2 o ho).1;omega)
  simpa using this
 have e2:K4 I=reachG I.V M.W.length 0 (M8 I.V [] I.roots):=D0x I.V _ _ 0 _ (by omega) (by omega);rw[e2];exact⟨e1,r2,by omega,hnd⟩
theorem K7.live (h:K7 I M D f) (hg:goodB M=true):O4 M=A1w I:=by
 obtain⟨e,hi,-⟩:=h.reach hg;unfold O4 A1w;rw[e,Zk];congr 1;refine Zj fun o ho=>?_
 obtain⟨hd,eo⟩:=hi o ho;show 1+(D4 M.W (f o.a)).n=1+o.n;unfold Ob.n;rw[eo];show 1+(B5 (A6 M.W (f o.a))).toNat=1+(B5 (A6 I.V o.a)).toNat
 rw[h.morph.size _ hd]
theorem K7.moved {N:A7} {go:Int→Int × Bool} {E:Nat→Prop} {g:Nat→Nat} (h:K7 I M D f) (hm:A7q M N go E g):K7 I N (fun a=>D a∧E (f a)) (fun a=>g (f a)):=by
 obtain⟨all,hk⟩:=hm.kept;obtain⟨hs,hob,hr,hw,hfo,hid⟩:=K5 hk.goodM;refine⟨h.morph.comp hk.morph,fun a ha=>h.dom a ha.1,fun a b ha hb=>h.apart a b ha.1 hb.1,fun a ha=>hm.obj _ ha.2,h.lenR.trans hk.lenR,fun i hi=>(h.roots i hi).comp (hk.roots i (by rw[←h.lenR];exact hi)),by rw[hk.weak,Zg];exact h.lenK,fun i hi=>?_,fun u s hu a ha hd=>?_,fun v s hv=>?_,h.wkV,h.idV,fun a ha=>h.nodes a ha.1⟩
 ·have hi2:i<M.weak.length:=by rw[←h.lenK];exact hi
  have e:N.weak.getD i 0=if (go (M.weak.getD i 0)).2 then (go (M.weak.getD i 0)).1 else 2:=by
   rw[hk.weak];simp[Ze,hi2]
  have hf:=A4d hw hi2;rcases h.weak i hi with c|⟨c1,a,c2,c3⟩
  ·by_cases hy:(go (M.weak.getD i 0)).2=true
   ·left;rw[e,if_pos hy];exact c.comp (hk.yes _ hf hy)
   ·right;rw[e,if_neg hy];rcases c with⟨c1,c2⟩|⟨a,c1,c2,c3,-⟩
    ·exfalso;obtain⟨p1,-⟩:=hk.no _ hf (by simpa using hy);simp only[A1j,Bool.and_eq_true,decide_eq_true_eq] at p1;obtain⟨b,hb,-⟩:=C5p hk.goodM hf p1.1 p1.2;rw[c2] at hb;omega
    ·exact⟨rfl,a,c1,fun q=>hy (hm.back _ _ hf c3 q.2)⟩
  ·right;rw[e,c1,hm.two];exact⟨rfl,a,c2,fun q=>c3 q.1⟩
 ·obtain⟨v,c1,c2⟩:=h.ids1 u s hu a ha hd.1;obtain⟨hf,k1,k2,k3⟩:=C6r hk.goodM c2;have hp:B6 v=(f a:Int):=by
   rcases c1 with⟨q1,-⟩|⟨b,q1,q2,q3,-⟩
   ·omega
   ·obtain rfl:b=a:=by omega
    exact q3
  have hy:=hm.back v (f a) hf hp hd.2;refine⟨(go v).1,c1.comp (hk.yes v hf hy),?_⟩;rw[hk.ids];exact Zo.2 ⟨(v,s),c2,by simp[hy]⟩
 ·rw[hk.ids] at hv;obtain⟨x,hx,e⟩:=Zo.1 hv;obtain⟨x1,x2⟩:=x;simp only at e
  split at e
  ·rename_i hy;simp only[Option.some.injEq,Prod.mk.injEq] at e;obtain⟨e1,rfl⟩:=e;obtain⟨u,u1,u2⟩:=h.ids2 x1 x2 hx;refine⟨u,u1,?_⟩;rw[←e1];exact u2.comp (hk.yes x1 (C6r hk.goodM hx).1 hy)
  ·cases e
end
open Go.RowKit Go.Extern.Stop Go.Stop Go.Extern
theorem C0y (v:Value) (w:World):(Extern.ReflectliteType.typeOf #[.iface 261 v]).run Zw w=.ok (.iface 206 (.agg #[.pointer (some ⟨11,261,none⟩)])) w:=by kernel_rfl
theorem C7g (w:World):((Extern.ReflectliteType.method fun t=>do Rtype.noPackHeld "Comparable" t;(fun a=>Value.bool a.comparable) <$> typeInfo t) #[.agg #[.pointer (some ⟨11,261,none⟩)]]).run Zw w=.ok (.bool true) w:=by kernel_rfl
theorem C7h (v:Value) (w:World):(Go.method 391 206 v "Comparable").run Zw w=.ok (207,v) w:=by kernel_rfl
theorem C7f:(Zw.info? 261).map (·.comparable)=some true:=by kernel_rfl
theorem C7i:(Zw.info? 279).map (·.size)=some 1:=by kernel_rfl
theorem E7w (v:Value) (xT:TypeId) (w:World):(Instr.typeAssert (.iface 261 v) xT 208 true).run Zw w=.ok (.tuple #[.nilIface,.bool false]) w:=run_typeAssert_lacksB Tryz.underlying208 (by kernel_rfl) (by kernel_rfl) v xT w
theorem C9a (v:Value) (xT:TypeId) (w:World):(Instr.typeAssert (.iface 261 v) xT 211 true).run Zw w=.ok (.tuple #[.nilIface,.bool false]) w:=run_typeAssert_lacksB Tryz.underlying211 (by kernel_rfl) (by kernel_rfl) v xT w
theorem C9b (v:Value) (xT:TypeId) (w:World):(Instr.typeAssert (.iface 261 v) xT 212 true).run Zw w=.ok (.tuple #[.nilIface,.bool false]) w:=run_typeAssert_lacksB Tryz.underlying212 (by kernel_rfl) (by kernel_rfl) v xT w
theorem C7k (a:Addr) (w:World) :
  Calls Zw 45 #[E0 a,E0 a] w fun e w'=>e=.returned (.bool true)∧w'=w:=by
 obtain⟨i,hi,hcmp⟩:=Zv.1 C7f;obtain⟨j,hj,hjs⟩:=Zv.1 C7i;have h8:=@run_callFunc_extern Zw 96 _ Extern.ReflectliteType.typeOf Tryz.func96 (by kernel_rfl) (by kernel_rfl) (by kernel_rfl) (by kernel_rfl);have h32:=@run_callFunc_extern Zw 207 _ (Extern.ReflectliteType.method fun t=>do Rtype.noPackHeld "Comparable" t;pure (.bool (←typeInfo t).comparable)) Tryz.func207 (by kernel_rfl) (by kernel_rfl) (by kernel_rfl) (by kernel_rfl);have tT:=C0y;have cT:=C7g;have mR:=C7h;have heq:=run_eql_iface_ptr_same (P:=Zw) w a Tryz.underlying26 Tryz.underlying261 hi hcmp hj
 go_enter Tryz.func45,Tryz.ntmps45
 go_wp2;refine wp_loop_rounds 1 ?_;rw[rounds_succ];go_wp2;go_ret;exact⟨rfl,rfl⟩
theorem E3z (a b:Addr) (ca cb:Array Value) (ta tb:TypeId) (w:World) (hne:a≠b) (ha:w.heap[a.block]?=some (.cells ca ta (0,0))) (hb:w.heap[b.block]?=some (.cells cb tb (0,0))) :
  Calls Zw 45 #[E0 a,E0 b] w fun e w'=>e=.returned (.bool false)∧w'=w:=by
 obtain⟨i,hi,hcmp⟩:=Zv.1 C7f;obtain⟨j,hj,hjs⟩:=Zv.1 C7i;have h8:=@run_callFunc_extern Zw 96 _ Extern.ReflectliteType.typeOf Tryz.func96 (by kernel_rfl) (by kernel_rfl) (by kernel_rfl) (by kernel_rfl);have h32:=@run_callFunc_extern Zw 207 _ (Extern.ReflectliteType.method fun t=>do Rtype.noPackHeld "Comparable" t;pure (.bool (←typeInfo t).comparable)) Tryz.func207 (by kernel_rfl) (by kernel_rfl) (by kernel_rfl) (by kernel_rfl);have tT:=C0y;have cT:=C7g;have mR:=C7h;have nE:=E7w;have uE:=C9a;have vE:=C9b;have heq:=run_eql_iface_ptr_other (P:=Zw) w Tryz.underlying26 Tryz.underlying261 hi hcmp hj (by rw[hjs];decide) hne ha hb
 go_enter Tryz.func45,Tryz.ntmps45
 go_wp2;refine wp_loop_rounds 1 ?_;rw[rounds_succ];go_wp2;go_ret;exact⟨rfl,rfl⟩
end Go.Proofs.YtelhoppfidibiaaGreatDoor
