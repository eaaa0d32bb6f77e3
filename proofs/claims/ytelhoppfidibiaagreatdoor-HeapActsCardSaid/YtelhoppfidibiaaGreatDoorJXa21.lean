/- The major collector slides objects: plainly. -/
import Derived.Test.YtelhoppfidibiaaGreatDoorJXa20
set_option linter.unusedSimpArgs false
set_option linter.unusedVariables false
set_option maxHeartbeats 8000000
set_option maxRecDepth 100000
namespace Go.Proofs.YtelhoppfidibiaaGreatDoor
open Go.RowKit
open List renaming getD_eq_getElem?_getD→Za,getElem?_eq_getElem→Zb,length_map→Zc,length_set→Zd,length_take→Ze,mem_append→Zf,mem_of_mem_take→Zg,mem_singleton→Zh,take_add_one→Zi,take_append_drop→Zj,take_of_length_le→Zk
open Nat renaming le_refl→Zl
def A5g (w:Int):Int:=J7 (B3 w) 0 (G5 w) (B5 w)
theorem C3x {w:Int} (h0:0≤w) (h:P7 w=true):P7 (A5g w)=true∧B3 (A5g w)=B3 w∧F4 (A5g w)=0∧G5 (A5g w)=G5 w∧B5 (A5g w)=B5 w:=by
 obtain⟨k0,k1,a0,a1,m0,m1,z0⟩:=Z9 w h0;have z1:=((A1v w).1 h).2.2;exact A1t _ _ _ _ ⟨k0,k1⟩ ⟨by omega,by omega⟩ ⟨m0,m1⟩ ⟨z0,z1⟩
def A2w (fw:Int→Int) (W:List Int) (i:Nat):Nat→List Int
 | 0=>W
 | n+1=>A2w fw (W.set i (fw (A6 W i))) (i+1) n
theorem C0f (fw:Int→Int):∀ (n:Nat) (W:List Int) (i:Nat),(A2w fw W i n).length=W.length
 | 0,_,_=>rfl
 | n+1,W,i=>by rw[A2w,C0f fw n,Zd]
theorem C3i (W:List Int) (i j:Nat) (v:Int) (hi:i<W.length):A6 (W.set i v) j=if j=i then v else A6 W j:=by
 unfold A6;by_cases e:j=i
 ·subst e;rw[if_pos rfl,C5y _ _ _ hi]
 ·rw[if_neg e,C0j _ _ _ _ (fun q=>e q.symm)]
theorem C3h (fw:Int→Int):∀ (n:Nat) (W:List Int) (i j:Nat),i+n≤W.length→A6 (A2w fw W i n) j=if i≤j∧j<i+n then fw (A6 W j) else A6 W j
 | 0,W,i,j,h=>by rw[if_neg (by omega)];rfl
 | n+1,W,i,j,h=>by
  rw[A2w,C3h fw n _ (i+1) j (by rw[Zd];omega)];by_cases e:j=i
  ·subst e;rw[if_neg (by omega),if_pos ⟨Zl _,by omega⟩,C3i _ _ _ _ (by omega),if_pos rfl]
  ·rw[C3i _ _ _ _ (by omega),if_neg e];by_cases q:i+1≤j∧j<i+1+n
   ·rw[if_pos q,if_pos ⟨by omega,by omega⟩]
   ·rw[if_neg q,if_neg (by omega)]
theorem C5u (fw:Int→Int):∀ (n:Nat) (W:List Int) (i:Nat),A2w fw W i (n+1)=(A2w fw W i n).set (i+n) (fw (A6 (A2w fw W i n) (i+n)))
 | 0,W,i=>rfl
 | n+1,W,i=>by
  rw[A2w,C5u fw n _ (i+1),A2w,show i+1+n=i+(n+1) by omega]
def A8q (hb:Nat) (Y W:List Int) (a:Nat):List Int:=if hb≤a then W else Y
def A3x (hb:Nat) (Y W:List Int) (a t:Nat):List Int:=(splice W t (((A8q hb Y W a).drop a).take (1+A9 W a))).set t (A5g (A6 W a))
def A6n (hb:Nat) (fw:Int→Int) (Y W:List Int) (p:Nat × Nat):List Int :=
 if D2 (B3 (A6 W p.1)) then A3x hb Y W p.1 p.2 else A2w fw (A3x hb Y W p.1 p.2) (p.2+1) (A9 W p.1)
structure Z4 (M:A7) (fw:Int→Int) (done:List (Nat × Nat)) (top:Nat) (W:List Int):Prop where
 len:W.length=M.W.length
 low:∀ i,i<D1 M→A6 W i=A6 M.W i
 high:∀ i,top≤i→A6 W i=A6 M.W i
 head:∀ p∈done,A6 W p.2=A5g (A6 M.W p.1)
 raw:∀ p∈done,D2 (B3 (A6 M.W p.1))=true→∀ k,k<A9 M.W p.1→A6 W (p.2+1+k)=A6 M.W (p.1+1+k)
 fld:∀ p∈done,D2 (B3 (A6 M.W p.1))=false→∀ k,k<A9 M.W p.1→A6 W (p.2+1+k)=fw (A6 M.W (p.1+1+k))
 le:∀ p∈done,p.2+1+A9 M.W p.1≤top
 hb:D1 M≤top
structure A5s (M:A7) (p:Nat × Nat):Prop where
 src:(p.1<D1 M∧p.1+1+A9 M.W p.1≤D1 M)∨(D1 M≤p.1∧p.2≤p.1)
 inn:p.1+1+A9 M.W p.1≤M.W.length
 to_:p.2+1+A9 M.W p.1≤M.W.length
section
variable {M:A7} {fw:Int→Int} {done:List (Nat × Nat)} {top:Nat} {W:List Int}
theorem Z4.at_ (h:Z4 M fw done top W) {a:Nat} (hf:A5s M (a,top)) {i:Nat} (hi:a≤i) (hi2:i<a+1+A9 M.W a):A6 W i=A6 M.W i:=by
 rcases hf.src with⟨q1,q2⟩|⟨q1,q2⟩
 ·exact h.low i (by simp only at q1 q2;omega)
 ·exact h.high i (by simp only at q2;omega)
theorem Z4.hd_ (h:Z4 M fw done top W) {a:Nat} (hf:A5s M (a,top)):A6 W a=A6 M.W a:=h.at_ hf (Zl _) (by omega)
theorem Z4.sz_ (h:Z4 M fw done top W) {a:Nat} (hf:A5s M (a,top)):A9 W a=A9 M.W a:=by unfold A9;rw[h.hd_ hf]
theorem Z4.src_len (h:Z4 M fw done top W) {a:Nat} (hf:A5s M (a,top)) (hw:D1 M≤M.W.length):(((A8q (D1 M) (M.W.take (D1 M)) W a).drop a).take (1+A9 W a)).length=1+A9 M.W a:=by
 have h1:=hf.src;have h2:=hf.inn;simp only at h1 h2;rw[h.sz_ hf,Ze,List.length_drop];unfold A8q
 split
 ·rw[h.len];omega
 ·rw[Ze];omega
theorem Z4.src_at (h:Z4 M fw done top W) {a:Nat} (hf:A5s M (a,top)) (hw:D1 M≤M.W.length) {j:Nat} (hj:j<1+A9 M.W a):(((A8q (D1 M) (M.W.take (D1 M)) W a).drop a).take (1+A9 W a)).getD j 0=A6 M.W (a+j):=by
 have h1:=hf.src;have h2:=hf.inn;simp only at h1 h2;rw[h.sz_ hf,Za,List.getElem?_take,if_pos hj,List.getElem?_drop];unfold A8q
 split
 ·rename_i q;have:=h.at_ hf (i:=a+j) (by omega) (by omega);unfold A6 at this;rw[Za] at this;exact this
 ·rw[List.getElem?_take,if_pos (by omega)];unfold A6;rw[Za]
theorem Z4.wat0 (h:Z4 M fw done top W) {a:Nat} (hf:A5s M (a,top)) (hw:D1 M≤M.W.length) (i:Nat) :
  A6 (A3x (D1 M) (M.W.take (D1 M)) W a top) i=if i=top then A5g (A6 M.W a) else if top<i∧i<top+1+A9 M.W a then A6 M.W (a+(i-top)) else A6 W i:=by
 have hl:=h.src_len hf hw;have ht:=hf.to_;simp only at ht;unfold A3x;rw[C3i _ _ _ _ (by rw[length_splice _ _ _ (by rw[hl,h.len];omega),h.len];omega),h.hd_ hf];by_cases e:i=top
 ·rw[if_pos e,if_pos e]
 ·rw[if_neg e,if_neg e,B1c _ _ _ _ (by rw[hl,h.len];omega),hl];by_cases q:top<i∧i<top+1+A9 M.W a
  ·rw[if_pos q,if_pos ⟨by omega,by omega⟩,h.src_at hf hw (by omega)]
  ·rw[if_neg q,if_neg (by omega)]
theorem Z4.len0 (h:Z4 M fw done top W) {a:Nat} (hf:A5s M (a,top)) (hw:D1 M≤M.W.length):(A3x (D1 M) (M.W.take (D1 M)) W a top).length=M.W.length:=by
 have hl:=h.src_len hf hw;have ht:=hf.to_;simp only at ht;unfold A3x;rw[Zd,length_splice _ _ _ (by rw[hl,h.len];omega),h.len]
theorem Z4.wat1 (h:Z4 M fw done top W) {a:Nat} (hf:A5s M (a,top)) (hw:D1 M≤M.W.length) (i:Nat) :
  A6 (A6n (D1 M) fw (M.W.take (D1 M)) W (a,top)) i=if i=top then A5g (A6 M.W a) else if top<i∧i<top+1+A9 M.W a then (if D2 (B3 (A6 M.W a)) then A6 M.W (a+(i-top)) else fw (A6 M.W (a+(i-top)))) else A6 W i:=by
 have ht:=hf.to_;simp only at ht;unfold A6n;simp only;rw[h.hd_ hf,h.sz_ hf]
 cases hr:D2 (B3 (A6 M.W a)) with
 | true=>rw[if_pos rfl,if_pos rfl];exact h.wat0 hf hw i
 | false =>
  simp only[Bool.false_eq_true,if_false];rw[C3h _ _ _ _ _ (by rw[h.len0 hf hw];omega),h.wat0 hf hw];by_cases e:i=top
  ·rw[if_neg (by omega),if_pos e,if_pos e]
  ·rw[if_neg e,if_neg e];by_cases q:top<i∧i<top+1+A9 M.W a
   ·rw[if_pos ⟨by omega,by omega⟩,if_pos q,if_pos q]
   ·rw[if_neg (by omega),if_neg q,if_neg q]
theorem Z4.next (h:Z4 M fw done top W) {a:Nat} (hf:A5s M (a,top)) (hw:D1 M≤M.W.length):Z4 M fw (done++[(a,top)]) (top+1+A9 M.W a) (A6n (D1 M) fw (M.W.take (D1 M)) W (a,top)):=by
 have key:=h.wat1 hf hw;have hb:=h.hb;refine⟨?_,fun i hi=>?_,fun i hi=>?_,fun p hp=>?_,fun p hp hr k hk=>?_,fun p hp hr k hk=>?_,fun p hp=>?_,by omega⟩
 ·unfold A6n
  split
  ·exact h.len0 hf hw
  ·rw[C0f];exact h.len0 hf hw
 ·rw[key,if_neg (by omega),if_neg (by omega)];exact h.low i hi
 ·rw[key,if_neg (by omega),if_neg (by omega)];exact h.high i (by omega)
 ·rcases Zf.1 hp with q|q
  ·have:=h.le p q;rw[key,if_neg (by omega),if_neg (by omega)];exact h.head p q
  ·rw[Zh.1 q,key,if_pos rfl]
 ·rcases Zf.1 hp with q|q
  ·have:=h.le p q;rw[key,if_neg (by omega),if_neg (by omega)];exact h.raw p q hr k hk
  ·rw[Zh.1 q] at hr hk ⊢;simp only at hr hk ⊢;rw[key,if_neg (by omega),if_pos ⟨by omega,by omega⟩,if_pos hr];congr 1;omega
 ·rcases Zf.1 hp with q|q
  ·have:=h.le p q;rw[key,if_neg (by omega),if_neg (by omega)];exact h.fld p q hr k hk
  ·rw[Zh.1 q] at hr hk ⊢;simp only at hr hk ⊢;rw[key,if_neg (by omega),if_pos ⟨by omega,by omega⟩,if_neg (by rw[hr];simp)];congr 2;omega
 ·rcases Zf.1 hp with q|q
  ·have:=h.le p q;omega
  ·rw[Zh.1 q];exact Zl _
theorem C2u (hw:D1 M≤M.W.length):∀ (l:List Nat) (t:Nat) (done:List (Nat × Nat)) (W:List Int),Z4 M fw done t W→(∀ p∈Q4 M.W t l,A5s M p)→Z4 M fw (done++Q4 M.W t l) (A3h M.W t l) ((Q4 M.W t l).foldl (A6n (D1 M) fw (M.W.take (D1 M))) W)
 | [],t,done,W,h,_=>by simpa [Q4,A3h] using h
 | a::l,t,done,W,h,hf=>by
  rw[Q4,A3h,List.foldl_cons];have h1:=h.next (hf (a,t) (by simp[Q4])) hw;have h2:=C2u hw l _ _ _ h1 fun p hp=>hf p (by rw[Q4];exact List.mem_cons_of_mem _ hp)
  rw[List.append_assoc] at h2;exact h2
theorem D1p (M:A7) (fw:Int→Int):Z4 M fw [] (D1 M) M.W :=
 ⟨rfl,fun _ _=>rfl,fun _ _=>rfl,fun _ h=>by simp at h,fun _ h=>by simp at h,fun _ h=>by simp at h,fun _ h=>by simp at h,Zl _⟩
end
def O4 (M:A7):Nat:=((F5 M).map fun o=>1+o.n).sum
structure I7 (M:A7):Prop where
 ok:M.Ok
 chk:chk M=0
 room:(O4 M:Int)≤M.old
section
variable {M:A7}
theorem I7.good (h:I7 M):goodB M=true:=(L8 h.chk).1
theorem I7.shp (h:I7 M):G2 M:=(K5 h.good).1
theorem I7.objs (h:I7 M):M9 M (L3 M)=true:=(K5 h.good).2.1
theorem I7.nums (h:I7 M):∃ hh:Nat,M.half=hh∧D1 M=2*hh∧1≤hh∧hh≤65536∧M.W.length=2*hh+M.old.toNat∧M.base+M.top.toNat≤2*hh∧M.oldTop.toNat≤M.old.toNat∧M.old.toNat≤65536∧(M.old.toNat:Int)=M.old∧(M.oldTop.toNat:Int)=M.oldTop:=by
 obtain⟨hh,e1,e2,e3,e4,e5,e6,e7,e8,e9,e10,e11,e12⟩:=h.shp.nums;refine⟨hh,e1,e2,e4,e5,e6,?_,e8,e9,e10,e12⟩;rcases e3 with⟨u1,u2,u3⟩|⟨u1,u2,u3⟩<;>omega
theorem I7.place (h:I7 M) {x:Ob} (hx:x∈D8 M):x.w=A6 M.W x.a∧P7 (A6 M.W x.a)=true∧G5 (A6 M.W x.a)=0∧((x∈(partN M).1∧x.a+1+A9 M.W x.a≤D1 M)∨(x∈(partO M).1∧D1 M≤x.a∧x.a+1+A9 M.W x.a≤D1 M+M.oldTop.toNat)):=by
 obtain⟨hh,e1,e2,e4,e5,e6,e7,e8,e9,e10,e12⟩:=h.nums;have ho:=h.objs;rw[M9] at ho;simp only[Bool.and_eq_true,List.all_eq_true] at ho;unfold D8 at hx;have hsz:x.n=(B5 x.w).toNat:=rfl;rcases Zf.1 hx with q|q
 ·have hi:=A7a (show x∈(part M.W M.base (M.base+M.top.toNat)).1 from q);have hm:=ho.1.2 x q;simp only[L3,Bool.and_eq_true,beq_iff_eq] at hm;have h1:=hi.to;have h2:=hi.w;refine⟨h2,h2 ▸ hi.hd,by rw[←h2];exact hm.1,Or.inl ⟨q,?_⟩⟩;unfold A9;rw[←h2];omega
 ·have hi:=A7a (show x∈(part M.W (2*M.half).toNat ((2*M.half).toNat+M.oldTop.toNat)).1 from q);have hm:=ho.2.2 x q;simp only[L3,Bool.and_eq_true,beq_iff_eq] at hm;have h1:=hi.to;have h2:=hi.w;have h3:=hi.lo;refine⟨h2,h2 ▸ hi.hd,by rw[←h2];exact hm.1,Or.inr ⟨q,h3,?_⟩⟩;unfold A9 D1;rw[←h2];omega
theorem I7.dom (h:I7 M) {a:Nat} (ha:Z7 M a):∃ x∈D8 M,x.a=a∧x∈F5 M∧x.w=A6 M.W a:=by
 obtain⟨x,hx,rfl⟩:=List.mem_map.1 ha;have hm:=(A7c h.good).mem x hx;exact⟨x,hm,rfl,hx,(h.place hm).1⟩
theorem I7.endE (h:I7 M):B1r M=D1 M+O4 M:=by
 unfold B1r O4;rw[B3u];have h1:((K3 M).map fun a=>1+A9 M.W a).sum=(((F5 M).map (·.a)).map fun a=>1+A9 M.W a).sum:=((List.mergeSort_perm _ _).map _).sum_nat
 rw[h1,List.map_map];congr 2;refine List.map_congr_left fun o ho=>?_
 have hw:=(h.place ((A7c h.good).mem o ho)).1;show 1+A9 M.W o.a=1+o.n;unfold A9 Ob.n;rw[hw]
theorem I7.fits (h:I7 M):∀ p∈N5 M,A5s M p:=by
 intro p hp;obtain⟨hh,e1,e2,e4,e5,e6,e7,e8,e9,e10,e12⟩:=h.nums;obtain⟨x,hx,ex,hr,hw⟩:=h.dom (B2p hp);obtain⟨p1,p2,p3,p4⟩:=h.place hx;rw[ex] at p2 p3 p4;have hge:=B8l M.W (K3 M) (D1 M) p hp;have hend:A3h M.W (D1 M) (K3 M)=D1 M+O4 M:=h.endE;have hroom:=h.room;refine⟨?_,?_,by omega⟩
 ·rcases p4 with⟨q1,q2⟩|⟨q1,q2,q3⟩
  ·left;omega
  ·right;refine⟨q2,D2k M.W (K3 M) (D1 M) (D1 M) (E9h h.good) (fun a _ q=>q) (fun a ha b hb h1 h2=>?_) p hp q2⟩;obtain⟨y,hy,ey,-,-⟩:=h.dom ((B4o M a).1 ha);obtain⟨z,hz,ez,-,-⟩:=h.dom ((B4o M b).1 hb);have py:=(h.place hy).2.2.2;have pz:=(h.place hz).2.2.2;have hyO:y∈(partO M).1:=by
    rcases py with⟨r1,r2⟩|⟨r1,r2,r3⟩
    ·omega
    ·exact r1
   have hzO:z∈(partO M).1:=by
    rcases pz with⟨r1,r2⟩|⟨r1,r2,r3⟩
    ·omega
    ·exact r1
   have hl:N7 M.W (D1 M) ((partO M).1.map (·.a)) (D1 M+M.oldTop.toNat):=B4g (B0v h.objs).2 (by unfold D1;omega);have:=hl.apart (List.mem_map_of_mem (f:=(·.a)) hyO) (List.mem_map_of_mem (f:=(·.a)) hzO) (by omega);rw[ey,ez] at this;omega
 ·rcases p4 with⟨q1,q2⟩|⟨q1,q2,q3⟩<;>omega
theorem I7.hw (h:I7 M):D1 M≤M.W.length:=by
 obtain⟨hh,e1,e2,e4,e5,e6,e7,e8,e9,e10,e12⟩:=h.nums;omega
end
def J9 (M:A7) (u:Int):Int:=(Q0 M u).1
def A4e (M:A7) (k:Nat):List Int:=((N5 M).take k).foldl (A6n (D1 M) (J9 M) (M.W.take (D1 M))) M.W
def O9 (M:A7):List Int:=(N5 M).foldl (A6n (D1 M) (J9 M) (M.W.take (D1 M))) M.W
theorem I7.slid {M:A7} (h:I7 M):Z4 M (J9 M) (N5 M) (B1r M) (O9 M):=C2u h.hw (K3 M) (D1 M) [] M.W (D1p M _) h.fits
def V8 (M:A7) (k:Nat):Nat:=A3h M.W (D1 M) ((K3 M).take k)
theorem D2l (W:List Int) (l:List Nat) (t:Nat):(Q4 W t l).length=l.length:=by
 have:=congrArg List.length (A7j W l t);rw[Zc] at this;exact this
theorem C3c (W:List Int) (l:List Nat) (t k:Nat):(Q4 W t l).take k=Q4 W t (l.take k):=by
 by_cases q:k≤l.length
 ·conv=>lhs;rw[←Zj k l,C3b]
  have hl:(Q4 W t (l.take k)).length=k:=by rw[D2l,Ze];omega
  rw[List.take_append_of_le_length (by omega),Zk (by omega)]
 ·have e1:l.take k=l:=Zk (by omega);rw[e1];exact Zk (by rw[D2l];omega)
theorem I7.slidAt {M:A7} (h:I7 M) (k:Nat):Z4 M (J9 M) ((N5 M).take k) (V8 M k) (A4e M k):=by
 unfold A4e V8 N5;rw[C3c];refine C2u h.hw ((K3 M).take k) (D1 M) [] M.W (D1p M _) fun p hp=>h.fits p ?_
 unfold N5;rw[←C3c] at hp;exact Zg hp
theorem B2q (M:A7):(N5 M).length=(K3 M).length:=by
 have:=congrArg List.length (A7j M.W (K3 M) (D1 M));rw[Zc] at this;exact this
theorem B5d {M:A7} {k:Nat} (hk:k<(K3 M).length):(N5 M)[k]'(by rw[B2q];exact hk)=((K3 M)[k],V8 M k):=by
 have e:N5 M=Q4 M.W (D1 M) ((K3 M).take k)++Q4 M.W (V8 M k) ((K3 M).drop k):=by
  unfold N5 V8;rw[←C3b,Zj]
 have hd:(K3 M).drop k=(K3 M)[k]::(K3 M).drop (k+1):=List.drop_eq_getElem_cons hk;have hl:(Q4 M.W (D1 M) ((K3 M).take k)).length=k:=by
  have:=congrArg List.length (A7j M.W ((K3 M).take k) (D1 M));rw[Zc,Ze] at this;omega
 have h2:(N5 M)[k]?=some ((K3 M)[k],V8 M k):=by
  rw[e,hd,Q4,List.getElem?_append_right (by omega),hl,Nat.sub_self];rfl
 rw[Zb (by rw[B2q];exact hk)] at h2;exact Option.some.inj h2
theorem F7n {M:A7} {k:Nat} (hk:k<(K3 M).length):V8 M (k+1)=V8 M k+1+A9 M.W (K3 M)[k]:=by
 unfold V8;rw[B3u,B3u,Zi,Zb hk,List.map_append,List.sum_append];simp;omega
theorem C8e {M:A7} {k:Nat} (hk:k<(K3 M).length):A4e M (k+1)=A6n (D1 M) (J9 M) (M.W.take (D1 M)) (A4e M k) ((K3 M)[k],V8 M k):=by
 unfold A4e;rw[Zi,Zb (by rw[B2q];exact hk),List.foldl_append,B5d hk];rfl
theorem C8d (M:A7):A4e M (K3 M).length=O9 M:=by
 unfold A4e O9;rw[show (N5 M).take (K3 M).length=N5 M from Zk (by rw[B2q];exact Zl _)]
def A9v (l:List Ob):Nat:=(l.map fun o=>1+o.n).sum
theorem F6r (l:List Ob) (k:Nat) (hk:k<l.length):A9v (l.take (k+1))=A9v (l.take k)+(1+l[k].n):=by
 unfold A9v;rw[Zi,Zb hk,List.map_append,List.sum_append];simp
theorem F6q (l:List Ob) (h:∀ o∈l,o.n≤4096):A9v l≤4097*l.length:=by
 unfold A9v
 induction l with
 | nil=>simp
 | cons x l ih =>
  have h1:=h x (by simp);have h2:=ih fun o ho=>h o (by simp[ho])
  rw[List.map_cons,List.sum_cons,List.length_cons];omega
theorem C8b (b o:Nat) (M:A7) (S:C8) (w:World) (hM:G8 w b o M S) (hg:goodB M=true) :
  Calls Tryz.prog 98 #[.pointer (some ⟨b,o,none⟩)] w fun e w'=>e=.returned (.int .i64 (O4 M:Int))∧A0 w w':=by
 obtain⟨hs,-⟩:=K5 hg;have hlM:=A3u hs;have hlr:=B8x hg (A7c hg);have hmem:Hid (∀ x∈F5 M,x∈D8 M):=fun x hx=>(A7c hg).mem x hx
 have hn4:Hid (∀ x∈F5 M,x.n≤4096):=fun x hx=>by
  have h1:=B6p hM.ok hs (hmem.out x hx);have h2:B5 x.w≤4096:=((A1v x.w).1 (A2z hs (hmem.out x hx)).2.2).2.2;omega
 have HM:=Hz hM;have HG:=Hz hg;have HS:=Hz hs;clear hM hg hs
 go_enter Tryz.func98,Tryz.ntmps98
 go_wp2_with (go_at_call 53;refine (B7g b o M S _ HM.out HG.out).mono ?_;rintro e w1 ⟨ta,tc,mb,rfl,hT,-,-,-,hE⟩;have HT:=Hz hT;have HE1:=Hz hE;clear hT hE)
 obtain⟨-,hR⟩:=I9.read HT.out;have HR:=Hz hR;clear hR;generalize hl:F5 M=l at *
 have HL:=Hz hl;clear hl;generalize hTA:ta=TA;have HTA:=Hz hTA;clear hTA
 go_loopg [17,5] (l.length) (fun r i s wr=>∃ k:Nat,k+r=l.length∧i=.int .i64 (k:Int)∧s=.int .i64 ((A9v (l.take k):Nat):Int)∧Hid (A0 w1 wr))
 case atStart=>exact⟨0,by omega,rfl,rfl,A0.refl _⟩
 case round =>
  obtain⟨k,hk,rfl,rfl,hE⟩:=hrel
  cases gk with
  | succ r =>
   have hlt:k<l.length:=by omega
   have hltz:(k:Int)<(l.length:Int):=by omega
   have hat:(G9 l)[k]'(by rw[A4o];exact hlt)=(l[k].a:Int):=by simp[G9]
   obtain⟨tb,tp,hTe,hc0⟩:=(HR.out.ext hE.out) _ _ (B5b (G9 l) k (by rw[A4o];exact hlt));rw[hat] at hc0;obtain rfl:TA=some ⟨tb,tp,none⟩:=HTA.out.symm.trans hTe;have hm:=hmem.out _ (List.getElem_mem hlt);obtain⟨m1,m2,m3⟩:=A2z HS.out hm;have hsz:=B6p HM.out.ok HS.out hm;have hz4:=hn4.out _ (List.getElem_mem hlt);have hsn:=F6r l k hlt;have hsl:=F6q (l.take k) fun x hx=>hn4.out x (Zg hx)
   rw[Ze] at hsl;generalize l[k]=x at *
   generalize A9v (l.take k)=s at *
   have hxw:=O6 HM.out.ok x.a;rw[←m2] at hxw;have hMr:G8 wr b o M S:=HM.out.ext (HE1.out.trans_ hE.out);have c3:=hMr.W;have hil:x.a<M.W.length:=by omega
   have hilz:(x.a:Int)<(M.W.length:Int):=by omega
   obtain⟨wb,wo,hWa,hcW⟩:=hMr.rW x.a _ (K2 M.W x.a hil);have hcW':wr.cell? ⟨wb,wo+x.a,none⟩=some (.int .u64 x.w):=by rw[hcW,m2];simp[A6,Za,hil]
   rw[hWa] at c3;have e1:IntKind.i64.wrap (1+B5 x.w)=1+B5 x.w:=IntWalk.i64_in _ (by omega);have e2:IntKind.i64.wrap ((s:Int)+(1+B5 x.w))=(s:Int)+(1+B5 x.w):=IntWalk.i64_in _ (by omega);have HK:=Hz hk;have HM3:=Hz m3;have HXW:=Hz hxw;have HSN:=Hz hsn;have HSZ:=Hz hsz;clear hk hat hm m1 m2 m3 hsz hz4 hsn hsl hxw hMr hil hWa hcW hlt hTe
   go_wp2_with (go_at_call 56;refine (A3d x.w HXW.out.1 HXW.out.2 HM3.out _).mono ?_;rintro e w2 ⟨rfl,hq⟩;have HX2:=Hz hq;clear hq)
   go_roundg r
   case measure=>omega
   case rel =>
    refine⟨k+1,by have:=HK.out;omega,by go_num,?_,(hE.out.trans_ HX2.out).alloc_ _⟩;have h1:=HSN.out;have h2:=HSZ.out;congr 1;omega
  | zero =>
   obtain rfl:k=l.length:=by omega
   have hltz:¬((l.length:Nat):Int)<(l.length:Int):=by omega
   have hfin:A9v (l.take l.length)=O4 M:=by rw[List.take_length,←HL.out];rfl
   rw[hfin];clear hfin hk;go_wp2;go_ret;exact⟨rfl,HE1.out.trans_ hE.out⟩
def CNo (w:World) (E:Nat→Addr) (c:Int) (e:Ending) (w':World):Prop:=e=.returned (F1 E c)∧A0 w w'
theorem D7r (b o:Nat) (M:A7) (S:C8) (E:Nat→Addr) (ten:Int) (w:World) (hM:G8 w b o M S) (hE:G4 E w) (h:chk M=0) (t0:0≤ten) (t1:ten≤15) (hf:M.old-M.oldTop<M.top) :
  Calls Tryz.prog 44 #[.pointer (some ⟨b,o,none⟩),.int .i64 ten] w (CNo w E 6):=by
 have HC:Hid (F1 E (chk M)=.nilIface):=by rw[Hid,h];rfl
 obtain⟨hs,-⟩:=K5 (L8 h).1;have s3:=hs.o1;have s4:=hs.o2;have s7:=hs.p1;have s8:=hs.p2;have e1:IntKind.i64.wrap (M.old-M.oldTop)=M.old-M.oldTop:=IntWalk.i64_in _ (by omega);have HM:=Hz hM;have HE:=Hz hE;have HF:=Hz hf;clear hM hE h hs hf
 go_enter Tryz.func44,Tryz.ntmps44
 go_wp2_with (go_at_call 90;refine (B5x b o M S E w HM.out HE.out.toG3).mono ?_;rintro e w1 ⟨he,hq⟩;rw[HC.out] at he;subst he;have HX1:=Hz hq;clear hq)
 have hM1:=HM.out.ext HX1.out;have d1:=hM1.old;have d6:=hM1.oldTop;have d5:=hM1.top;have k5:=(HE.out.ext HX1.out).full;have hf:=HF.out;clear hM1;go_region;go_wp2;go_ret;exact⟨rfl,HX1.out.drew_⟩
end Go.Proofs.YtelhoppfidibiaaGreatDoor
