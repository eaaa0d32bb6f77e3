/- The document's CheckOf, plainly: it is the program's Check. -/
import Derived.Test.YtelhoppfidibiaaGreatDoorJXa05
import Derived.Laws.CopyOwn
set_option linter.unusedSimpArgs false
set_option linter.unusedVariables false
namespace Go.Proofs.YtelhoppfidibiaaGreatDoor
open Bool renaming and_eq_true→Za
open List renaming all_cons→Zb,all_eq_true→Zc,contains_iff_mem→Zd,eq_nil_of_length_eq_zero→Ze,map_append→Zf,map_cons→Zg,mem_append→Zh,mem_append_left→Zi,mem_append_right→Zj,mem_cons→Zk,mem_map→Zl,mem_map_of_mem→Zm,mem_of_getElem?→Zn,nodup_append→Zo,pairwise_append→Zp,pairwise_cons→Zq
open World renaming cell?_of_block→Zr
theorem C7n {M:A7} (h:((kN M).2&&(kO M).2)=true):(kN M).1++(kO M).1=D8 M∧(partN M).2=true∧(partO M).2=true∧(D8 M).all A8k=true:=by
 have key:∀ a to,(T7 M.W a to).2=true→(T7 M.W a to).1=(part M.W a to).1∧(part M.W a to).2=true∧(part M.W a to).1.all A8k=true:=fun a to h=>by
  unfold T7 at h ⊢
  split at h
  ·rename_i h1;rw[if_pos h1];simp only[Za] at h1;exact⟨rfl,h1.1,h1.2⟩
  ·cases h
 simp only[Za] at h;obtain⟨a1,a2,a3⟩:=key _ _ h.1;obtain⟨b1,b2,b3⟩:=key _ _ h.2;refine⟨?_,a2,b2,?_⟩
 ·unfold D8 partN partO kN kO;rw[a1,b1]
 ·unfold D8 partN partO;rw[List.all_append,a3,b3];rfl
theorem E4b {M:A7} (h:((kN M).2&&(kO M).2)=false):M9 M (L3 M)=false:=by
 have key:∀ a to,(T7 M.W a to).2=((part M.W a to).2&&(part M.W a to).1.all A8k):=fun a to=>by
  unfold T7
  split
  ·rename_i h1;rw[h1]
  ·rename_i h1;simpa using h1
 unfold kN kO at h;rw[key,key] at h
 cases hb:M9 M (L3 M) with
 | false=>rfl
 | true =>
  simp only[M9,Za] at hb;have hm:∀ l:List Ob,l.all (L3 M)=true→l.all A8k=true:=fun l hl=>by
   rw[Zc] at hl ⊢;intro x hx;have:=hl x hx;simp only[L3,Za] at this;exact this.1
  have h1:(partN M).2=true:=hb.1.1;have h2:(partO M).2=true:=hb.2.1;have h3:=hm _ hb.1.2;have h4:=hm _ hb.2.2;unfold partN at h1 h3;unfold partO at h2 h4;rw[h1,h2,h3,h4] at h
  cases h
def A5w (M:A7) (x:Ob):Bool:=!(L4 M (x.a:Int)&&(F4 x.w != 0))
def okK (M:A7) (x:Ob):Bool:=A5w M x&&R2 M (C6 M) x
def A4l (y x:Int × Int):Bool:=(y.1==x.1)||(y.2==x.2)
def idK (st:List Int) (pre:List (Int × Int)) (x:Int × Int):Bool:=(decide (0≤B6 x.1)&&F8 st (B6 x.1)&&decide (1≤x.2))&&!(pre.any fun y=>A4l y x)
theorem E9v (st:List Int) (a:Int) (h0:0≤a) (hlt:∀ s∈st,0≤s∧s<1099511627776):(decide (0≤B6 a)&&F8 st (B6 a))=((C7 a==0)&&(a != 0)&&F8 st (C9 a)):=by
 unfold B6;by_cases h1:C7 a=0
 ·by_cases h2:a=0
  ·rw[if_neg (by simp[h2])];simp[h2]
  ·by_cases h3:a/4≤1099511627776
   ·rw[if_pos ⟨h1,h2,h3⟩];have h4:0≤C9 a:=by unfold C9;unfold C7 at h1;omega
    simp[h1,h2,h4]
   ·rw[if_neg (fun h=>h3 h.2.2)];have h5:F8 st (C9 a)=false:=by
     cases hq:F8 st (C9 a) with
     | false=>rfl
     | true =>
      have:=hlt _ (Zd.1 hq);unfold C9 at this;omega
    simp[h5]
 ·rw[if_neg (fun h=>h1 h.1)];have:(C7 a==0)=false:=by simpa using h1
  simp[this]
theorem C4a (a b:Int):(a==b)=(b==a):=by
 by_cases h:a=b
 ·subst h;rfl
 ·rw[beq_eq_false_iff_ne.2 h,beq_eq_false_iff_ne.2 (Ne.symm h)]
theorem E2u (st:List Int) (pre:List (Int × Int)) (x:Int × Int) (h0:0≤x.1) (hlt:∀ s∈st,0≤s∧s<1099511627776):idK st pre x=A4s st pre x:=by
 unfold idK A4s;rw[E9v st x.1 h0 hlt];have e:(pre.any fun y=>A4l y x)=(F8 (pre.map (·.1)) x.1||F8 (pre.map (·.2)) x.2):=by
  induction pre with
  | nil=>rfl
  | cons y pre ih =>
   simp only[List.any_cons,Zg,F8,List.contains_cons,A4l] at ih ⊢;rw[ih,C4a x.1 y.1,C4a x.2 y.2]
   cases (y.1==x.1)<;>cases (y.2==x.2)<;>simp
 rw[e];have e2:decide (1≤x.2)=!decide (x.2<1):=by
  rcases Int.lt_or_le x.2 1 with h|h
  ·rw[decide_eq_true h,decide_eq_false (by omega)];rfl
  ·rw[decide_eq_false (by omega:¬x.2<1),decide_eq_true h];rfl
 rw[e2];by_cases h1:C7 x.1=0
 ·have b1:(C7 x.1==0)=true:=beq_iff_eq.2 h1;have b2:(C7 x.1 != 0)=false:=by rw[bne,b1];rfl
  by_cases h2:x.1=0
  ·have b3:(x.1==0)=true:=beq_iff_eq.2 h2;have b4:(x.1 != 0)=false:=by rw[bne,b3];rfl
   rw[b1,b2,b3,b4];simp
  ·have b3:(x.1==0)=false:=beq_eq_false_iff_ne.2 h2;have b4:(x.1 != 0)=true:=by rw[bne,b3];rfl
   have e3:D0 st x.1=F8 st (C9 x.1):=by simp[D0,h1,h2]
   rw[e3,b1,b2,b3,b4]
   cases F8 st (C9 x.1)<;>cases decide (x.2<1)<;>cases F8 (pre.map (·.1)) x.1<;>cases F8 (pre.map (·.2)) x.2<;>rfl
 ·have b1:(C7 x.1==0)=false:=beq_eq_false_iff_ne.2 h1;have b2:(C7 x.1 != 0)=true:=by rw[bne,b1];rfl
  rw[b1,b2];simp
theorem C0v (st:List Int) (hlt:∀ s∈st,0≤s∧s<1099511627776):∀ (pre l:List (Int × Int)),(∀ x∈l,0≤x.1)→(T0 st pre l=true↔∀ k (hk:k<l.length),idK st (pre++l.take k) l[k]=true)
 | pre,[],_=>by simp[T0]
 | pre,x::l,h=>by
  rw[T0,Za,C0v st hlt (pre++[x]) l (fun y hy=>h y (by simp[hy])),←E2u st pre x (h x (by simp)) hlt];constructor
  ·rintro⟨h1,h2⟩ k hk
   cases k with
   | zero=>simpa using h1
   | succ k=>simpa using h2 k (by simpa using hk)
  ·intro h1;refine⟨?_,fun k hk=>?_⟩
   ·have:=h1 0 (by simp);rw[List.take_zero,List.append_nil] at this;exact this
   ·have:=h1 (k+1) (by simpa using hk);rw[List.take_succ_cons,List.append_cons] at this;exact this
theorem B8h (M:A7) (hs:G2 M):∀ s∈C6 M,0≤s∧s<1099511627776:=fun s h=>by
 obtain⟨o,ho,rfl⟩:=Zl.1 h;have h1:=hs.h1;have h2:=hs.t2;have h3:=hs.p2;have h4:=hs.w;have h5:=hs.base;have h6:=hs.o2;have h7:=hs.t1;have h8:=hs.p1;have h9:=hs.h2;rcases B4m ho with g|g
 ·have:=g.to;omega
 ·have:=g.to;omega
theorem F9c (M:A7) (hs:G2 M) (a:Int) (h0:0≤a) (hf:D0 (C6 M) a=true):J5 M a=(decide (0≤B6 a)&&decide (B6 a<2*M.half)):=by
 unfold J5 L4 B6;by_cases h1:C7 a=0
 ·by_cases h2:a=0
  ·rw[if_neg (by simp[h2])];simp[h2]
  ·have h3:F8 (C6 M) (C9 a)=true:=by simpa [D0,h1,h2] using hf
   have h4:=B8h M hs _ (Zd.1 h3);rw[if_pos ⟨h1,h2,by unfold C9 at h4;omega⟩];have h5:(C7 a==0)=true:=by simpa using h1
   have h6:(a != 0)=true:=by simpa using h2
   rw[h5,h6,decide_eq_true h4.1];by_cases h7:2*M.half≤C9 a
   ·rw[decide_eq_true h7,decide_eq_false (by omega)];rfl
   ·rw[decide_eq_false h7,decide_eq_true (by omega)];rfl
 ·rw[if_neg (fun h=>h1 h.1)];have:(C7 a==0)=false:=by simpa using h1
  simp[this]
theorem D7a {M:A7} (hs:P1 M=true) (h:((kN M).2&&(kO M).2)=true) (hr:J6 (C6 M) M.roots=true) (hk:J6 (C6 M) M.weak=true) :
  chk M=if (D8 M).all (okK M)=true then (if T0 (C6 M) [] M.ids=true then (if A0p M=true then 0 else 5) else 3) else 3:=by
 obtain⟨e1,e2,e3,e4⟩:=C7n h;have e5:M9 M (L3 M)=(D8 M).all (L3 M):=by unfold M9 D8;rw[e2,e3,List.all_append];simp
 have e6:((D8 M).all (L3 M)&&(D8 M).all (R2 M (C6 M)))=(D8 M).all (okK M):=by
  revert e4;generalize D8 M=l;intro e4
  induction l with
  | nil=>rfl
  | cons x l ih =>
   simp only[Zb,Za] at e4;rw[Zb,Zb,Zb,←ih e4.2];have:L3 M x=A5w M x:=by
    have h1:=e4.1;unfold A8k at h1;unfold L3 A5w;rw[h1];by_cases h2:F4 x.w=0
    ·simp[h2]
    ·have:(F4 x.w==0)=false:=by simpa using h2
     have h3:(F4 x.w != 0)=true:=by simpa using h2
     simp[this,h3]
   rw[this];unfold okK
   cases A5w M x<;>cases R2 M (C6 M) x<;>cases List.all l (L3 M)<;>cases List.all l (R2 M (C6 M))<;>rfl
 have e7:goodB M=((D8 M).all (okK M)&&T0 (C6 M) [] M.ids):=by
  unfold goodB;rw[hs,e5,hr,hk,←e6]
  cases List.all (D8 M) (L3 M)<;>cases List.all (D8 M) (R2 M (C6 M))<;>rfl
 unfold chk;rw[e7]
 cases List.all (D8 M) (okK M)<;>cases T0 (C6 M) [] M.ids<;>cases A0p M<;>rfl
open Go.RowKit
theorem E8i {M:A7} (hok:M.Ok) (hs:G2 M) {x:Ob} (h:ObM M x):(x.a:Int)+1+B5 x.w≤(M.W.length:Int)∧0≤B5 x.w∧(x.n:Int)=B5 x.w∧(2*M.half≤(x.a:Int)→(x.a:Int)+1+B5 x.w≤2*M.half+M.old)∧(M.W.length:Int)≤196608:=by
 have h1:=hs.h1;have h2:=hs.t2;have h3:=hs.p2;have h4:=hs.w;have h5:=hs.base;have h6:=hs.o2;have h7:=hs.t1;have h8:=hs.p1;have h9:=hs.h2;have hz:0≤B5 x.w:=by
  have hd:x.w=A6 M.W x.a:=by rcases h with h|h<;>exact h.w
  rw[hd];exact (Z9 _ (O6 hok x.a).1).2.2.2.2.2.2
 have hn:(x.n:Int)=B5 x.w:=by unfold Ob.n;omega
 rcases h with h|h
 ·have:=h.to;refine⟨by omega,hz,hn,by omega,by omega⟩
 ·have:=h.to;refine⟨by omega,hz,hn,by omega,by omega⟩
theorem D6m {M:A7} (hs:G2 M) (a:Int) (ha:2*M.half≤a) (hb:a<2*M.half+M.old) :
  ∃ J:Nat,(a-2*M.half).tdiv M.card=(J:Int)∧J<M.cards.length∧A0e M a=M.cards.getD J false:=by
 obtain⟨i0,i1⟩:=hs.card a ha hb;refine⟨((a-2*M.half)/M.card).toNat,?_,by omega,rfl⟩;rw[Int.tdiv_eq_ediv_of_nonneg (by omega)];omega
theorem B9l {p:Ob→Bool} {l:List Ob} {x:Ob} (hx:x∈l) (h:p x=false):l.all p=false:=by
 rw[List.all_eq_false];exact⟨x,hx,by rw[h];simp⟩
theorem D0a {M:A7} {x:Ob} (h:D2 (B3 x.w)=true):R2 M (C6 M) x=true:=by unfold R2;rw[h];rfl
theorem C4g {M:A7} {x:Ob} (h:D2 (B3 x.w)=true):A1r M x=true:=by unfold A1r;rw[h];rfl
theorem C4f {M:A7} {x:Ob} (h:D2 (B3 x.w)=false):A1r M x=A2v M x x.n:=by unfold A1r;rw[h];rfl
theorem D6n {M:A7} {x:Ob} (h:L4 M (x.a:Int)=false) (n:Nat):A2v M x n=true:=by
 unfold A2v;rw[Zc];intro i _;simp[crd,h]
theorem D4w {M:A7} {x:Ob} (h:L4 M (x.a:Int)=false):A5w M x=true:=by unfold A5w;rw[h];rfl
theorem D4v {M:A7} {x:Ob} (h:(F4 x.w != 0)=false):A5w M x=true:=by unfold A5w;rw[h];simp
theorem C5o {M:A7} {x:Ob} (h:J6 (C6 M) (flds M x)=true) (j:Nat) (hj:j<x.n):D0 (C6 M) (A6 M.W (x.a+1+j))=true:=by
 unfold J6 at h;rw[Zc] at h;exact h _ (Zl.2 ⟨j,List.mem_range.2 hj,rfl⟩)
theorem E2r {st:List Int} {pre:List (Int × Int)} {x:Int × Int} (h:B6 x.1<0):idK st pre x=false:=by unfold idK;rw[decide_eq_false (by omega:¬0≤B6 x.1)];rfl
theorem E2s {st:List Int} {pre:List (Int × Int)} {x:Int × Int} (h:F8 st (B6 x.1)=false):idK st pre x=false:=by unfold idK;rw[h];simp
theorem E2t {st:List Int} {pre:List (Int × Int)} {x:Int × Int} (h:x.2<1):idK st pre x=false:=by unfold idK;rw[decide_eq_false (by omega:¬1≤x.2)];simp
theorem C6p {st:List Int} {pre:List (Int × Int)} {x y:Int × Int} (hy:y∈pre) (h:A4l y x=true):idK st pre x=false:=by
 have:(pre.any fun y=>A4l y x)=true:=List.any_eq_true.2 ⟨y,hy,h⟩;unfold idK;rw[this];simp
theorem E2v {st:List Int} {pre:List (Int × Int)} {x:Int × Int} (h1:¬B6 x.1<0) (h2:F8 st (B6 x.1)=true) (h3:¬x.2<1) (h4:∀ j (hj:j<pre.length),A4l pre[j] x=false):idK st pre x=true:=by
 have:(pre.any fun y=>A4l y x)=false:=by
  rw[List.any_eq_false];intro y hy;obtain⟨j,hj,rfl⟩:=List.mem_iff_getElem.1 hy;rw[h4 j hj];simp
 unfold idK;rw[this,h2,decide_eq_true (by omega:0≤B6 x.1),decide_eq_true (by omega:1≤x.2)];rfl
theorem B4e {M:A7} (hs:G2 M) (hok:M.Ok) (k:Nat) (hk:k<M.ids.length) (h:idK (C6 M) (M.ids.take k) M.ids[k]=false):T0 (C6 M) [] M.ids=false:=by
 cases hb:T0 (C6 M) [] M.ids with
 | false=>rfl
 | true =>
  have:=(C0v (C6 M) (B8h M hs) [] M.ids (fun x hx=>(hok.ids x hx).1.1)).1 hb k hk;rw[List.nil_append,h] at this
  cases this
theorem E3d {M:A7} (hs:G2 M) (hok:M.Ok) (h:∀ k (hk:k<M.ids.length),idK (C6 M) (M.ids.take k) M.ids[k]=true):T0 (C6 M) [] M.ids=true :=
 (C0v (C6 M) (B8h M hs) [] M.ids (fun x hx=>(hok.ids x hx).1.1)).2 (fun k hk=>by rw[List.nil_append];exact h k hk)
structure I6 where
 off:Nat
 e:TypeId
 size:Nat
 a:Option Addr
 n:Nat
 c:Nat
 cs:List Value
def I6.val (f:I6):Value:=.slice f.a f.n f.c
structure OM (w:World) (B b:Nat) (nums:List (Nat × Int)) (L:List I6):Prop where
 hb:B≤b
 blk:∃ cur t,w.heap[b]?=some (.cells cur t (0,0))
 num:∀ p∈nums,w.cell? ⟨b,p.1,none⟩=some (.int .i64 p.2)
 fld:∀ f∈L,w.cell? ⟨b,f.off,none⟩=some f.val∧w.ownsRow B f.e f.size f.val f.n f.cs∧f.val.ownBlock≠some b
 apart:L.Pairwise fun f g=>∀ k,f.val.ownBlock=some k→g.val.ownBlock≠some k
 offs:(nums.map (·.1)++L.map (·.off)).Nodup
theorem OM.lt {w:World} {B b:Nat} {nums:List (Nat × Int)} {L:List I6} (h:OM w B b nums L):b<w.heap.size:=by
 obtain⟨cur,t,hc⟩:=h.blk;rcases Nat.lt_or_ge b w.heap.size with g|g
 ·exact g
 ·simp[Array.getElem?_eq_none g] at hc
theorem OM.frozen {w:World} {B b:Nat} {nums:List (Nat × Int)} {L:List I6} (h:OM w B b nums L) (j:Nat):w.frozen? ⟨b,j,none⟩=false:=by
 obtain⟨cur,t,hc⟩:=h.blk;simp[World.frozen?,hc]
theorem OM.kept {w w':World} {B b:Nat} {nums:List (Nat × Int)} {L:List I6} (h:OM w B b nums L) (hk:∀ k,k<w.heap.size→(k=b∨∃ f∈L,f.val.ownBlock=some k)→w'.heap[k]?=w.heap[k]?):OM w' B b nums L:=by
 have hbk:w'.heap[b]?=w.heap[b]?:=hk b h.lt (Or.inl rfl);refine⟨h.hb,?_,fun p hp=>?_,fun f hf=>⟨?_,?_,(h.fld f hf).2.2⟩,h.apart,h.offs⟩
 ·rw[hbk];exact h.blk
 ·rw[Zr (w:=w) (a:=⟨b,p.1,none⟩) hbk];exact h.num p hp
 ·rw[Zr (w:=w) (a:=⟨b,f.off,none⟩) hbk];exact (h.fld f hf).1
 ·obtain⟨h1,h2⟩:=(h.fld f hf).2.1;refine⟨h1,?_⟩;rcases h2 with h2|⟨g,cap,cur,hv,hg,hh,r⟩
  ·exact Or.inl h2
  ·refine Or.inr ⟨g,cap,cur,hv,hg,?_,r⟩;rw[hk g (((h.fld f hf).2.1.lt g (by rw[hv];rfl)).2) (Or.inr ⟨f,hf,by rw[hv];rfl⟩)];exact hh
theorem OM.ext {w w':World} {B b:Nat} {nums:List (Nat × Int)} {L:List I6} (h:OM w B b nums L) (hx:A0 w w'):OM w' B b nums L:=h.kept fun k hk _=>hx.block k hk
theorem A4i {w:World} {B:Nat} {e:TypeId} {size:Nat} {v:Value} {n:Nat} {xs:List Value} (h:w.ownsRow B e size v n xs) {p:Addr} (hp:v.ownBlock≠some p.block) (u:Value):(w.setCell p u).ownsRow B e size v n xs:=by
 obtain⟨h1,h2⟩:=h;refine⟨h1,?_⟩;rcases h2 with h2|⟨g,cap,cur,hv,hg,hh,r⟩
 ·exact Or.inl h2
 ·refine Or.inr ⟨g,cap,cur,hv,hg,?_,r⟩;rw[Below.heap_setCell _ _ _ _ (fun e=>hp (by rw[hv];exact congrArg some e))];exact hh
theorem A1c {w:World} {b o:Nat} {x u:Value} (hc:w.cell? ⟨b,o,none⟩=some x):(w.setCell ⟨b,o,none⟩ u).cell? ⟨b,o,none⟩=some u:=by
 simp[hc,go_sem]
theorem J4 {w:World} {b o o':Nat} {u:Value} (h:o≠o'):(w.setCell ⟨b,o,none⟩ u).cell? ⟨b,o',none⟩=w.cell? ⟨b,o',none⟩ :=
 World.cell?_setCell_other w _ _ u (fun e=>h (by injection e))
theorem A3g {w:World} {b o:Nat} {u:Value} (h:∃ cur t,w.heap[b]?=some (.cells cur t (0,0))):∃ cur t,(w.setCell ⟨b,o,none⟩ u).heap[b]?=some (.cells cur t (0,0)):=by
 obtain⟨cur,t,hc⟩:=h;simp only[World.setCell,Array.getElem?_modify];simp[hc]
theorem OM.fill {w w1:World} {B b:Nat} {nums:List (Nat × Int)} {L1 L2:List I6} {f:I6} (h:OM w B b nums (L1++f::L2)) (hf:f.a=none) (a':Option Addr) (n' c':Nat) (cs':List Value)
  (hg:w.grownBy w1 none) (ho:w1.ownsRow B f.e f.size (.slice a' n' c') n' cs') (hnew:(Value.slice a' n' c').ownBlock=none∨(Value.slice a' n' c').ownBlock=some w.heap.size) :
  OM (w1.setCell ⟨b,f.off,none⟩ (.slice a' n' c')) B b nums (L1++⟨f.off,f.e,f.size,a',n',c',cs'⟩::L2):=by
 have h1:OM w1 B b nums (L1++f::L2):=h.kept fun k hk _=>hg.block k hk (by simp)
 have hlt:=h.lt;have hnb:(Value.slice a' n' c').ownBlock≠some b:=by
  rcases hnew with e|e
  ·rw[e];simp
  ·rw[e];simp;omega
 have hold:∀ g∈L1++f::L2,∀ k,g.val.ownBlock=some k→(Value.slice a' n' c').ownBlock≠some k:=fun g hgm k hk=>by
  have:=((h.fld g hgm).2.1.lt k hk).2;rcases hnew with e|e
  ·rw[e];simp
  ·rw[e];simp;omega
 have hoffs:=h.offs;have hfoff:∀ p∈nums,p.1≠f.off:=fun p hp e=>by
  rw[Zo] at hoffs;exact hoffs.2.2 p.1 (Zm hp) f.off (Zm (by simp)) e
 have hgoff:∀ g∈L1++L2,g.off≠f.off:=fun g hgm e=>by
  have:=(Zo.1 hoffs).2.1;simp only[Zf,Zg] at this;rw[Zo,List.nodup_cons] at this;rcases Zh.1 hgm with q|q
  ·exact this.2.2 g.off (Zm q) f.off (by simp) e
  ·exact this.2.1.1 (by rw[←e];exact Zm q)
 refine⟨h.hb,A3g h1.blk,fun p hp=>?_,fun g hgm=>?_,?_,?_⟩
 ·rw[J4 (hfoff p hp).symm];exact h1.num p hp
 ·rcases Zh.1 hgm with q|q
  ·have q':g∈L1++f::L2:=Zi _ q;refine⟨?_,A4i (h1.fld g q').2.1 (h1.fld g q').2.2 _,(h1.fld g q').2.2⟩;rw[J4 (hgoff g (Zi _ q)).symm];exact (h1.fld g q').1
  ·rcases Zk.1 q with rfl|q
   ·exact⟨A1c (h1.fld f (by simp)).1,A4i ho hnb _,hnb⟩
   ·have q':g∈L1++f::L2:=by simp[q]
    refine⟨?_,A4i (h1.fld g q').2.1 (h1.fld g q').2.2 _,(h1.fld g q').2.2⟩;rw[J4 (hgoff g (Zj _ q)).symm];exact (h1.fld g q').1
 ·have hp:=h.apart;rw[Zp,Zq] at hp ⊢;obtain⟨p1,⟨p2,p3⟩,p4⟩:=hp;refine⟨p1,⟨fun g hgm k hk=>?_,p3⟩,fun g hg1 g' hg' k hk=>?_⟩
  ·intro e;exact hold g (by simp[hgm]) k e hk
  ·rcases Zk.1 hg' with rfl|hg'
   ·exact hold g (by simp[hg1]) k hk
   ·exact p4 g hg1 g' (by simp[hg']) k hk
 ·simpa using hoffs
theorem A6u (l:List (Int × Int)) (i:Nat) (h:i<l.length):(G0 l)[i*2]?=some (.int .u64 l[i].1)∧(G0 l)[i*2+1]?=some (.int .i64 l[i].2):=by
 induction l generalizing i with
 | nil=>simp at h
 | cons y l ih =>
  cases i with
  | zero=>simp[G0]
  | succ i =>
   have:=ih i (by simpa using h);have e1:(i+1)*2=i*2+2:=by omega
   rw[e1];simpa [G0] using this
theorem C6n (l:List (Int × Int)):(G0 l).length=l.length*2:=by
 induction l with
 | nil=>rfl
 | cons y l ih=>simp only[G0,List.flatMap_cons,List.length_append,List.length_cons,List.length_nil] at *;omega
def L5 (M:A7):List (Nat × Int):=[(0,M.half),(1,M.old),(2,M.card),(4,M.used),(5,M.top),(6,M.oldTop)]
def F3 (tI:TypeId) (M:A7) (S:C8):List I6 :=
 [⟨3,78,1,S.W.1,M.W.length,S.W.2,C5 M.W⟩,⟨7,78,1,S.R.1,M.roots.length,S.R.2,C5 M.roots⟩,⟨8,78,1,S.K.1,M.weak.length,S.K.2,C5 M.weak⟩,
  ⟨9,tI,2,S.I.1,M.ids.length,S.I.2,G0 M.ids⟩,⟨10,4,1,S.C.1,M.cards.length,S.C.2,R7 M.cards⟩]
def B7 (w:World) (B b:Nat) (tI:TypeId) (M:A7) (S:C8):Prop:=OM w B b (L5 M) (F3 tI M S)
theorem R4 {w:World} {B:Nat} {e:TypeId} {size:Nat} {a:Option Addr} {n c:Nat} {xs:List Value} (h:w.ownsRow B e size (.slice a n c) n xs):F7 w a xs∧n≤c∧(a=none→c=0):=by
 rcases h.2 with⟨h1,h2⟩|⟨g,cap,cur,h1,_,hg,hc,_,_,ht⟩
 ·injection h1 with h1 _ h3;subst h1 h3 h2;have:xs=[]:=Ze (by simpa using h.1);subst this;exact⟨F7.nil _ _,Nat.le_refl _,fun _=>rfl⟩
 ·injection h1 with h1 _ h3;subst h1 h3;refine⟨fun j u hu=>⟨g,0,rfl,?_⟩,hc,fun e=>by cases e⟩;rw[Nat.zero_add,cell_of_row w g j cur _ _ hg];rw[←ht,List.getElem?_take] at hu
  split at hu
  ·simpa using hu
  ·cases hu
theorem B7.mem {w:World} {B b:Nat} {tI:TypeId} {M:A7} {S:C8} (h:B7 w B b tI M S) (hok:M.Ok):G8 w b 0 M S:=by
 have hn:=h.num;have hf:=h.fld;have q3:=hf _ (Zn (l:=F3 tI M S) (i:=0) rfl);have q7:=hf _ (Zn (l:=F3 tI M S) (i:=1) rfl);have q8:=hf _ (Zn (l:=F3 tI M S) (i:=2) rfl);have q9:=hf _ (Zn (l:=F3 tI M S) (i:=3) rfl);have q10:=hf _ (Zn (l:=F3 tI M S) (i:=4) rfl);obtain⟨r3,c3,n3⟩:=R4 q3.2.1;obtain⟨r7,c7,n7⟩:=R4 q7.2.1;obtain⟨r8,c8,n8⟩:=R4 q8.2.1;obtain⟨r9,c9,n9⟩:=R4 q9.2.1;obtain⟨r10,c10,n10⟩:=R4 q10.2.1;have e:∀ j:Nat,(⟨b,0+j,none⟩:Addr)=⟨b,j,none⟩:=fun j=>by rw[Nat.zero_add]
 refine⟨?_,?_,?_,?_,?_,?_,?_,?_,?_,?_,?_,r3,r7,r8,r9,r10,c3,c7,c8,c9,c10,n3,n7,n8,n9,n10,hok⟩
 ·exact hn _ (Zn (l:=L5 M) (i:=0) rfl)
 ·rw[e];exact hn _ (Zn (l:=L5 M) (i:=1) rfl)
 ·rw[e];exact hn _ (Zn (l:=L5 M) (i:=2) rfl)
 ·rw[e];exact q3.1
 ·rw[e];exact hn _ (Zn (l:=L5 M) (i:=3) rfl)
 ·rw[e];exact hn _ (Zn (l:=L5 M) (i:=4) rfl)
 ·rw[e];exact hn _ (Zn (l:=L5 M) (i:=5) rfl)
 ·rw[e];exact q7.1
 ·rw[e];exact q8.1
 ·rw[e];exact q9.1
 ·rw[e];exact q10.1
structure Few (M:A7):Prop where
 W:M.W.length≤1000000
 R:M.roots.length≤1000000
 K:M.weak.length≤1000000
 I:M.ids.length≤1000000
 C:M.cards.length≤1000000
theorem A6r (l:List Int):∀ u∈C5 l,u.oneCell'=true:=fun u hu=>by obtain⟨x,_,rfl⟩:=Zl.1 hu;rfl
theorem B9o (l:List Bool):∀ u∈R7 l,u.oneCell'=true:=fun u hu=>by obtain⟨x,_,rfl⟩:=Zl.1 hu;rfl
theorem B6t (l:List (Int × Int)):∀ u∈G0 l,u.oneCell'=true:=fun u hu=>by
 obtain⟨o,_,ho⟩:=List.mem_flatMap.1 hu;simp at ho;rcases ho with rfl|rfl<;>rfl
theorem A7l (l:List Int):(C5 l).length=l.length*1:=by simp[C5]
theorem B9n (l:List Bool):(R7 l).length=l.length*1:=by simp[R7]
def B6m (tI:TypeId):List I6:=[⟨3,78,1,none,0,0,[]⟩,⟨7,78,1,none,0,0,[]⟩,⟨8,78,1,none,0,0,[]⟩,⟨9,tI,2,none,0,0,[]⟩,⟨10,4,1,none,0,0,[]⟩]
theorem E9d (w:World) (M:A7) (t tI:TypeId) :
  OM (w.alloc (.cells #[.int .i64 M.half,.int .i64 M.old,.int .i64 M.card,.slice none 0 0,.int .i64 M.used,.int .i64 M.top,.int .i64 M.oldTop,.slice none 0 0,.slice none 0 0,.slice none 0 0,.slice none 0 0] t)) w.heap.size w.heap.size (L5 M) (B6m tI):=by
 have hc:∀ j v,(#[Value.int .i64 M.half,.int .i64 M.old,.int .i64 M.card,.slice none 0 0,.int .i64 M.used,.int .i64 M.top,.int .i64 M.oldTop,.slice none 0 0,.slice none 0 0,.slice none 0 0,.slice none 0 0]:Array Value)[j]?=some v →
   (w.alloc (.cells #[.int .i64 M.half,.int .i64 M.old,.int .i64 M.card,.slice none 0 0,.int .i64 M.used,.int .i64 M.top,.int .i64 M.oldTop,.slice none 0 0,.slice none 0 0,.slice none 0 0,.slice none 0 0] t)).cell? ⟨w.heap.size,j,none⟩=some v:=fun j v hv=>by
  rw[cell_of_row _ w.heap.size j _ t (0,0) (heap_alloc_new w _)];exact hv
 refine⟨Nat.le_refl _,⟨_,t,heap_alloc_new w _⟩,fun p hp=>?_,fun f hf=>?_,?_,?_⟩
 ·simp only[L5,Zk,List.not_mem_nil,or_false] at hp;rcases hp with rfl|rfl|rfl|rfl|rfl|rfl<;>exact hc _ _ rfl
 ·simp only[B6m,Zk,List.not_mem_nil,or_false] at hf;rcases hf with rfl|rfl|rfl|rfl|rfl<;>exact⟨hc _ _ rfl,World.ownsRow_nil _ _ _ _,by simp[I6.val,Value.ownBlock]⟩
 ·simp[B6m,I6.val,Value.ownBlock]
 ·simp[B6m,L5]
theorem P4 {P:Program} {c:Code} {Q:Exit→Act→World→Prop} {a:Act} {W:World} (h:∀ W9,W9=W→Code.wp P c Q a W9):Code.wp P c Q a W:=h W rfl
theorem OM.setNum {w:World} {B b:Nat} {n1 n2:List (Nat × Int)} {off:Nat} {v:Int} {L:List I6} (h:OM w B b (n1++(off,v)::n2) L) (v':Int) :
  OM (w.setCell ⟨b,off,none⟩ (.int .i64 v')) B b (n1++(off,v')::n2) L:=by
 have hoffs:=h.offs;have hf:∀ f∈L,off≠f.off:=fun f hf e=>by
  rw[Zo] at hoffs;exact hoffs.2.2 off (Zm (f:=(·.1)) (a:=(off,v)) (by simp)) f.off (Zm hf) e
 have hn:∀ p∈n1++n2,off≠p.1:=fun p hp e=>by
  have h1:=(Zo.1 hoffs).1;simp only[Zf,Zg] at h1;rw[Zo,List.nodup_cons] at h1;rcases Zh.1 hp with q|q
  ·exact h1.2.2 p.1 (Zm q) off (by simp) e.symm
  ·exact h1.2.1.1 (by rw[e];exact Zm q)
 refine⟨h.hb,A3g h.blk,fun p hp=>?_,fun f hfm=>⟨?_,A4i (h.fld f hfm).2.1 (h.fld f hfm).2.2 _,(h.fld f hfm).2.2⟩,h.apart,by simpa using hoffs⟩
 ·rcases Zh.1 hp with q|q
  ·rw[J4 (hn p (Zi _ q))];exact h.num p (Zi _ q)
  ·rcases Zk.1 q with rfl|q
   ·exact A1c (h.num (off,v) (by simp))
   ·rw[J4 (hn p (Zj _ q))];exact h.num p (by simp[q])
 ·rw[J4 (hf f hfm)];exact (h.fld f hfm).1
theorem E9i {w w':World} {B:Nat} {e:TypeId} {size:Nat} {v:Value} {n:Nat} {xs:List Value} (h:w.ownsRow B e size v n xs) {g:Nat} (hg:v.ownBlock≠some g) (hb:But g w w'):w'.ownsRow B e size v n xs:=by
 obtain⟨h1,h2⟩:=h;refine⟨h1,?_⟩;rcases h2 with h2|⟨k,cap,cur,hv,hk,hh,r⟩
 ·exact Or.inl h2
 ·refine Or.inr ⟨k,cap,cur,hv,hk,?_,r⟩;rw[hb.block k (fun e=>hg (by rw[hv,←e];rfl))];exact hh
theorem OM.row {w w':World} {B b:Nat} {nums:List (Nat × Int)} {L1 L2:List I6} {f:I6} (h:OM w B b nums (L1++f::L2)) {g:Nat} (hg:f.val.ownBlock=some g) (hb:But g w w') {cs':List Value} (ho:w'.ownsRow B f.e f.size f.val f.n cs') :
  OM w' B b nums (L1++⟨f.off,f.e,f.size,f.a,f.n,f.c,cs'⟩::L2):=by
 have hap:=h.apart;have hother:∀ k∈L1++L2,k.val.ownBlock≠some g:=fun k hk e=>by
  rw[Zp,Zq] at hap;rcases Zh.1 hk with q|q
  ·exact hap.2.2 k q f (by simp) g e hg
  ·exact hap.2.1.1 k q g hg e
 have hgb:g≠b:=fun e=>(h.fld f (by simp)).2.2 (by rw[hg,e])
 have hbk:w'.heap[b]?=w.heap[b]?:=hb.block b (Ne.symm hgb);have hcell:∀ j v,w.cell? ⟨b,j,none⟩=some v→w'.cell? ⟨b,j,none⟩=some v:=fun j v hc=>by
  rw[Zr (w:=w) (a:=⟨b,j,none⟩) hbk];exact hc
 have hgood:∀ k∈L1++L2,w'.cell? ⟨b,k.off,none⟩=some k.val∧w'.ownsRow B k.e k.size k.val k.n k.cs∧k.val.ownBlock≠some b:=fun k hk=>by
  have h1:k∈L1++f::L2:=by rcases Zh.1 hk with q|q<;>simp[q]
  exact⟨hcell _ _ (h.fld k h1).1,E9i (h.fld k h1).2.1 (hother k hk) hb,(h.fld k h1).2.2⟩
 refine⟨h.hb,by rw[hbk];exact h.blk,fun p hp=>hcell _ _ (h.num p hp),fun k hk=>?_,?_,by simpa using h.offs⟩
 ·rcases Zh.1 hk with q|q
  ·exact hgood k (Zi _ q)
  ·rcases Zk.1 q with rfl|q
   ·exact⟨hcell _ _ (h.fld f (by simp)).1,ho,(h.fld f (by simp)).2.2⟩
   ·exact hgood k (Zj _ q)
 ·rw[Zp,Zq] at hap ⊢;obtain⟨p1,⟨p2,p3⟩,p4⟩:=hap;refine⟨p1,⟨p2,p3⟩,fun k hk k' hk'=>?_⟩;rcases Zk.1 hk' with rfl|hk'
  ·exact p4 k hk f (by simp)
  ·exact p4 k hk k' (by simp[hk'])
theorem A8.sub {L L':Nat→Prop} {w w':World} (h:A8 L w w') (hl:∀ k,L k→L' k):A8 L' w w':=⟨h.os,h.tape,h.output,h.size,fun k hk hn=>h.block k hk fun e=>hn (hl k e)⟩
theorem B1m (w:World) (p:Addr) (u:Value):But p.block w (w.setCell p u) :=
 ⟨rfl,rfl,rfl,by simp[World.setCell],fun k hk=>heap_setCell_other w p k u hk⟩
theorem B7x {w:World} {B:Nat} {e:TypeId} {v:Value} {n:Nat} {xs:List Value} (h:w.ownsRow B e 1 v n xs) {g:Nat} (hg:v.ownBlock=some g) (j:Nat) (hj:j<n) (u:Value) :
  (w.setCell ⟨g,j,none⟩ u).ownsRow B e 1 v n (xs.set j u):=by
 obtain⟨h1,h2⟩:=h;refine⟨by simpa using h1,?_⟩;rcases h2 with⟨h2,_⟩|⟨k,cap,cur,hv,hk,hh,q1,q2,q3,q4⟩
 ·rw[h2] at hg;cases hg
 ·obtain rfl:k=g:=by rw[hv] at hg;exact Option.some.inj hg
  refine Or.inr ⟨k,cap,cur.setIfInBounds j u,hv,hk,heap_setCell_same w k j cur e u hh,q1,q2,by simpa using q3,?_⟩;rw[Array.toList_setIfInBounds,←q4];exact List.take_set
theorem Q3 {w:World} {B:Nat} {e:TypeId} {size:Nat} {a:Option Addr} {c:Nat} {n:Nat} {xs:List Value} (h:w.ownsRow B e size (.slice a n c) n xs) (hn:0<n) :
  ∃ g,a=some ⟨g,0,none⟩∧B≤g∧g<w.heap.size∧(∀ j,w.frozen? ⟨g,j,none⟩=false)∧n≤c∧∃ cur:List Value,w.heap[g]?=some (.cells cur.toArray e (0,0))∧cur.length=c*size∧cur.take (n*size)=xs:=by
 rcases h.2 with⟨_,h2⟩|⟨g,cap,cur,h1,hg,hh,q1,q2,q3,q4⟩
 ·omega
 ·injection h1 with h1 _ h3;subst h1 h3;exact⟨g,rfl,hg,lt_of_block hh,fun j=>by simp[World.frozen?,hh],q1,cur.toList,by simpa using hh,by simpa using q3,q4⟩
theorem C2n {P:Program} {w:World} (dT sT ty:TypeId) (elem:TypeId) (hu:P.underlying dT=some (.slice elem)) (hsz:(P.info? elem).map (·.size)=some 1)
  (dp sp:Option Addr) (dLen dCap sLen sCap:Nat) (g off:Nat) (cur:List Value) (t:TypeId) (hg:w.heap[g]?=some (.cells cur.toArray t (0,0))) (cs:List Value) (hn:cs.length=Nat.min sLen dLen)
  (hpos:0<cs.length→dp=some ⟨g,off,none⟩∧∃ ad,sp=some ad∧∀ j v,cs[j]?=some v→w.cell? (ad.add j)=some v)
  (hfit:off+cs.length≤cur.length) (h1:∀ v∈cs,v.oneCell'=true) :
  ∃ w',(Builtin.copy_ #[dT,sT] ty #[.slice dp dLen dCap,.slice sp sLen sCap]).run P w=.ok (goInt cs.length) w'∧w'.heap[g]?=some (.cells (splice cur off cs).toArray t (0,0))∧But g w w':=by
 by_cases h0:cs.length=0
 ·obtain rfl:cs=[]:=Ze h0;exact⟨w,run_copy_none (P:=P) w dT sT ty elem dp sp dLen dCap sLen sCap hu hsz (by simpa using hn.symm),by simpa [splice] using hg,rfl,rfl,rfl,rfl,fun _ _=>rfl⟩
 ·obtain⟨rfl,ad,rfl,hsrc⟩:=hpos (by omega);exact⟨_,run_copy_row (P:=P) w dT sT ty elem g off dLen dCap ad sLen sCap cur.toArray t cs hu hsz hg hn hsrc (by simpa using hfit) h1,by simpa [splice] using setRow_heap w g _ _ t _ hg,rfl,rfl,rfl,by simp[World.setRow],fun k hk=>setRow_other w g k _ hk⟩
theorem B4p {w w':World} {B:Nat} {e:TypeId} {a:Option Addr} {c n:Nat} {xs:List Value} (h:w.ownsRow B e 1 (.slice a n c) n xs) {g:Nat} (ha:a=some ⟨g,0,none⟩) {cur:List Value} (hg:w.heap[g]?=some (.cells cur.toArray e (0,0)))
  (off:Nat) (cs:List Value) (hf:off+cs.length≤n) (hw:w'.heap[g]?=some (.cells (splice cur off cs).toArray e (0,0))):w'.ownsRow B e 1 (.slice a n c) n (splice xs off cs):=by
 obtain⟨h1,h2⟩:=h;rcases h2 with⟨h2,_⟩|⟨k,cap,cur',hv,hk,hh,q1,q2,q3,q4⟩
 ·rw[ha] at h2;cases h2
 ·injection hv with hv1 _ hv3;rw[ha] at hv1;injection hv1 with hv1;injection hv1 with hv1;subst hv1 hv3;rw[hg] at hh;injection hh with hh;injection hh with hh;subst hh;simp only[Nat.mul_one] at q3 q4 h1 ⊢;have hlen:cur.length=c:=by simpa using q3
  refine⟨?_,Or.inr ⟨g,c,(splice cur off cs).toArray,by rw[ha],hk,hw,q1,q2,?_,?_⟩⟩
  ·rw[length_splice _ _ _ (by omega)];omega
  ·simp[length_splice _ _ _ (show off+cs.length≤cur.length by omega),hlen]
  ·simp only[Nat.mul_one] at *
   subst q4;simp only[splice];rw[List.take_append,List.take_append,List.take_take,List.drop_take,List.length_take];rw[Nat.min_eq_right (show off≤n by omega),Nat.min_eq_left (show off≤cur.length by omega),List.take_take,Nat.min_eq_left (show off≤n by omega),List.take_of_length_le (show cs.length≤n-off by omega)];congr 3;omega
theorem OM.add {w:World} {B b:Nat} {nums:List (Nat × Int)} {L:List I6} (h:OM w B b nums L) (f:I6) (hc:∃ x,w.cell? ⟨b,f.off,none⟩=some x) (ho:w.ownsRow B f.e f.size f.val f.n f.cs) (hb:f.val.ownBlock≠some b)
  (hap:∀ g∈L,∀ k,g.val.ownBlock=some k→f.val.ownBlock≠some k) (hoff:f.off∉nums.map (·.1)++L.map (·.off)):OM (w.setCell ⟨b,f.off,none⟩ f.val) B b nums (L++[f]):=by
 obtain⟨x,hx⟩:=hc;have hn:∀ p∈nums,f.off≠p.1:=fun p hp e=>hoff (Zi _ (by rw[e];exact Zm hp))
 have hf:∀ g∈L,f.off≠g.off:=fun g hg e=>hoff (Zj _ (by rw[e];exact Zm hg))
 refine⟨h.hb,A3g h.blk,fun p hp=>?_,fun g hg=>?_,?_,?_⟩
 ·rw[J4 (hn p hp)];exact h.num p hp
 ·rcases Zh.1 hg with q|q
  ·exact⟨by rw[J4 (hf g q)];exact (h.fld g q).1,A4i (h.fld g q).2.1 (h.fld g q).2.2 _,(h.fld g q).2.2⟩
  ·obtain rfl:=List.mem_singleton.1 q;exact⟨A1c hx,A4i ho hb _,hb⟩
 ·rw[Zp];refine⟨h.apart,List.pairwise_singleton _ _,fun g hg k hk q hq=>?_⟩;obtain rfl:=List.mem_singleton.1 hk;exact hap g hg q hq
 ·rw[Zf,←List.append_assoc,Zo];refine⟨h.offs,by simp,fun a ha c hc e=>?_⟩;obtain rfl:c=f.off:=by simpa using hc
  exact hoff (e ▸ ha)
theorem C3j (l:List Int) (j:Nat) (x:Int):C5 (l.set j x)=(C5 l).set j (.int .u64 x):=by simp[C5,List.map_set]
theorem D5n (l:List Bool) (j:Nat) (x:Bool):R7 (l.set j x)=(R7 l).set j (.bool x):=by simp[R7,List.map_set]
section
variable {w w':World} {B b:Nat} {tI:TypeId} {M:A7} {S:C8}
def A5u (b:Nat) (S:C8) (k:Nat):Prop:=k=b∨S.W.1=some ⟨k,0,none⟩∨S.C.1=some ⟨k,0,none⟩
theorem B7.fW (h:B7 w B b tI M S):w.ownsRow B 78 1 (.slice S.W.1 M.W.length S.W.2) M.W.length (C5 M.W):=(h.fld ⟨3,78,1,S.W.1,M.W.length,S.W.2,C5 M.W⟩ (by simp[F3])).2.1
theorem B7.fC (h:B7 w B b tI M S):w.ownsRow B 4 1 (.slice S.C.1 M.cards.length S.C.2) M.cards.length (R7 M.cards):=(h.fld ⟨10,4,1,S.C.1,M.cards.length,S.C.2,R7 M.cards⟩ (by simp[F3])).2.1
theorem B7.setTop (h:B7 w B b tI M S) (v:Int):B7 (w.setCell ⟨b,5,none⟩ (.int .i64 v)) B b tI {M with top:=v} S :=
 OM.setNum (n1:=[(0,M.half),(1,M.old),(2,M.card),(4,M.used)]) (n2:=[(6,M.oldTop)]) h v
theorem B7.rowW (h:B7 w B b tI M S) {g:Nat} (hg:S.W.1=some ⟨g,0,none⟩) (hb:But g w w') (l:List Int) (hl:l.length=M.W.length) (ho:w'.ownsRow B 78 1 (.slice S.W.1 M.W.length S.W.2) M.W.length (C5 l)):B7 w' B b tI {M with W:=l} S:=by
 have:=OM.row (L1:=[]) (f:=⟨3,78,1,S.W.1,M.W.length,S.W.2,C5 M.W⟩) h (g:=g) (by simp[I6.val,hg,Value.ownBlock]) hb ho;unfold B7 F3;simp only[hl];exact this
theorem B7.setW (h:B7 w B b tI M S) {g:Nat} (hg:S.W.1=some ⟨g,0,none⟩) (j:Nat) (hj:j<M.W.length) (x:Int):B7 (w.setCell ⟨g,j,none⟩ (.int .u64 x)) B b tI {M with W:=M.W.set j x} S :=
 B7.rowW h hg (B1m w ⟨g,j,none⟩ _) _ (by simp) (by rw[C3j];exact B7x h.fW (by simp[hg,Value.ownBlock]) j hj _)
theorem B7.rowC (h:B7 w B b tI M S) {g:Nat} (hg:S.C.1=some ⟨g,0,none⟩) (hb:But g w w') (l:List Bool) (hl:l.length=M.cards.length) (ho:w'.ownsRow B 4 1 (.slice S.C.1 M.cards.length S.C.2) M.cards.length (R7 l)):B7 w' B b tI {M with cards:=l} S:=by
 have:=OM.row (L1:=(F3 tI M S).take 4) (L2:=[]) (f:=⟨10,4,1,S.C.1,M.cards.length,S.C.2,R7 M.cards⟩) h (g:=g) (by simp[I6.val,hg,Value.ownBlock]) hb ho;unfold B7 F3;simp only[hl];exact this
theorem B7.setC (h:B7 w B b tI M S) {g:Nat} (hg:S.C.1=some ⟨g,0,none⟩) (j:Nat) (hj:j<M.cards.length) (x:Bool):B7 (w.setCell ⟨g,j,none⟩ (.bool x)) B b tI {M with cards:=M.cards.set j x} S :=
 B7.rowC h hg (B1m w ⟨g,j,none⟩ _) _ (by simp) (by rw[D5n];exact B7x h.fC (by simp[hg,Value.ownBlock]) j hj _)
end
end Go.Proofs.YtelhoppfidibiaaGreatDoor
