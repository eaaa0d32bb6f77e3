/- The walks of Memory.Touch and Memory.Store. -/
import Derived.Test.YtelhoppfidibiaaGreatDoorJXa06
import Derived.Handy
set_option linter.unusedSimpArgs false
set_option linter.unusedVariables false
set_option maxHeartbeats 4000000
set_option maxRecDepth 100000
namespace Go.Proofs.YtelhoppfidibiaaGreatDoor
open Go.RowKit
open IntWalk renaming i64_in→Za
open List renaming ext_getElem?→Zb,getD_eq_getElem?_getD→Zc,length_set→Zd
open Go.Proofs.Tryz renaming prog→Ze
def A1q (M:A7) (a:Int):Nat:=((a-2*M.half)/M.card).toNat
def A6p (M:A7) (a:Int):A7:={M with cards:=M.cards.set (A1q M a) true}
def R5 (M:A7) (j:Nat) (v:Int):A7:={M with W:=M.W.set j v}
def J3 (M:A7) (j:Nat) (v:Int):A7:=if L4 M (j:Int)&&J5 M v then A6p (R5 M j v) (j:Int) else R5 M j v
theorem B8f {M:A7} (h:M.Ok) (j:Nat) (v:Int) (h0:0≤v) (h1:v≤18446744073709551615):(R5 M j v).Ok :=
 ⟨h.half,h.old,h.card,h.used,h.top,h.oldTop,fun x hx=>by
  rcases List.mem_or_eq_of_mem_set hx with q|q
  ·exact h.W x q
  ·subst q;exact⟨h0,h1⟩,h.roots,h.weak,h.ids,by unfold R5;simp only[Zd];exact h.lenW,h.lenR,h.lenK,h.lenI,h.lenC⟩
theorem F7p {M:A7} (h:M.Ok) (a:Int):(A6p M a).Ok :=
 ⟨h.half,h.old,h.card,h.used,h.top,h.oldTop,h.W,h.roots,h.weak,h.ids,h.lenW,h.lenR,h.lenK,h.lenI,by unfold A6p;simp only[Zd];exact h.lenC⟩
theorem D1z {M:A7} (h:M.Ok) (j:Nat) (v:Int) (h0:0≤v) (h1:v≤18446744073709551615):(J3 M j v).Ok:=by
 unfold J3;split
 ·exact F7p (B8f h j v h0 h1) _
 ·exact B8f h j v h0 h1
theorem F1h {M:A7} (h:G2 M) (j:Nat) (v:Int):G2 (R5 M j v) :=
 ⟨h.h1,h.h2,h.o1,h.o2,h.c1,h.c2,by unfold R5;simp only[Zd];exact h.w,h.u1,h.u2,h.t1,h.t2,h.p1,h.p2,h.cl⟩
theorem B7.notW {w:World} {B b:Nat} {tI:TypeId} {M:A7} {S:C8} (h:B7 w B b tI M S) {g:Nat} (hg:S.W.1=some ⟨g,0,none⟩):g≠b:=fun e =>
 (h.fld ⟨3,78,1,S.W.1,M.W.length,S.W.2,C5 M.W⟩ (by simp[F3])).2.2 (by simp[I6.val,hg,Value.ownBlock,e])
theorem B7.notC {w:World} {B b:Nat} {tI:TypeId} {M:A7} {S:C8} (h:B7 w B b tI M S) {g:Nat} (hg:S.C.1=some ⟨g,0,none⟩):g≠b:=fun e =>
 (h.fld ⟨10,4,1,S.C.1,M.cards.length,S.C.2,R7 M.cards⟩ (by simp[F3])).2.2 (by simp[I6.val,hg,Value.ownBlock,e])
def C3s (w:World) (B b:Nat) (M:A7) (S:C8) (v:Value) (e:Ending) (w':World):Prop:=e=.returned v∧B7 w' B b 140 M S∧A8 (A5u b S) w w'
theorem F7q (B b:Nat) (M:A7) (S:C8) (w:World) (hO:B7 w B b 140 M S) (hok:M.Ok) (hs:G2 M) (a:Int) (ha:2*M.half≤a) (hb:a<2*M.half+M.old) :
  Calls Ze 111 #[.pointer (some ⟨b,0,none⟩),.int .i64 a] w (C3s w B b (A6p M a) S (.tuple #[])):=by
 obtain⟨i0,i1⟩:=hs.card a ha hb;have h1:=hs.h1;have h2:=hs.h2;have o2:=hs.o2;have cc1:=hs.c1;have cc2:=hs.c2;have hq:(a-2*M.half).tdiv M.card=(a-2*M.half)/M.card:=Int.tdiv_eq_ediv_of_nonneg (by omega);obtain⟨J,hJ⟩:∃ J:Nat,(a-2*M.half)/M.card=(J:Int):=⟨((a-2*M.half)/M.card).toNat,by omega⟩;have HJ:Hid (A1q M a=J):=by unfold Hid A1q;rw[hJ];rfl
 rw[hJ] at hq i1 i0;have hJl:J<M.cards.length:=by omega
 obtain⟨g,hg,hgB,hgl,hgf,hgc,-⟩:=Q3 hO.fC (by omega);have hM:=hO.mem hok;have c1:=hM.cards;have c2:=hM.half;have c3:=hM.card;simp only[Nat.zero_add] at c1 c2 c3;rw[hg] at c1;have hcell:w.cell? ⟨g,J,none⟩=some (.bool (M.cards.getD J false)):=by
  have:=hM.rC;rw[hg] at this;simpa using this.at_ (B3h M.cards J hJl)
 have hfg:=hgf J;have hgb:=hO.notC hg;have e0:IntKind.i64.wrap (2*M.half)=2*M.half:=Za _ (by omega);have e1:IntKind.i64.wrap (a-2*M.half)=a-2*M.half:=Za _ (by omega);have hcl:M.cards.length≤9223372036854775807:=hok.lenC;have e2:IntKind.i64.wrap ((J:Nat):Int)=(J:Int):=Za _ (by omega);have hne:(M.card==0)=false:=by simp;omega
 have hne2:¬M.card=0:=by omega
 have hjj:(J:Int)<(M.cards.length:Int):=by omega
 have HO:=Hz hO;have HG:=Hz hg;have HJL:=Hz hJl;clear hJ hM hs hO hg hgf hok hJl
 go_enter Tryz.func111,Tryz.ntmps111
 go_region;go_wp2
 go_returns
 refine⟨rfl,?_,?_⟩
 ·unfold A6p;rw[HJ.out];exact OM.ext (B7.setC HO.out HG.out J HJL.out true) (A0.refl _).drew_
 ·exact A8.drew_ (A8.set_ (L:=A5u b S) (A8.refl _ w) (p:=⟨g,J,none⟩) (Or.inl (Or.inr (Or.inr HG.out))) _)
theorem C2y (B b:Nat) (M:A7) (S:C8) (w:World) (hO:B7 w B b 140 M S) (hok:M.Ok) (hs:G2 M) (at_:Nat) (hat:at_<M.W.length) (v:Int) (h0:0≤v) (h1:v≤18446744073709551615) :
  Calls Ze 51 #[.pointer (some ⟨b,0,none⟩),.int .i64 (at_:Int),.int .u64 v] w (C3s w B b (J3 M at_ v) S (.tuple #[])):=by
 obtain⟨g,hg,hgB,hgl,hgf,hgc,-⟩:=Q3 hO.fW (by omega);have hM:=hO.mem hok;have c3:=hM.W;simp only[Nat.zero_add] at c3;rw[hg] at c3;have hcell:w.cell? ⟨g,at_,none⟩=some (.int .u64 (M.W.getD at_ 0)):=by
  have:=hM.rW;rw[hg] at this;simpa using this.at_ (K2 M.W at_ hat)
 have hfg:=hgf at_;have hwl:=hok.lenW;have hltz:(at_:Int)<(M.W.length:Int):=by omega
 have hsw:=hs.w;have hO1:B7 (w.setCell ⟨g,at_,none⟩ (.int .u64 v)) B b 140 (R5 M at_ v) S:=B7.setW hO hg at_ hat v;have hK1:A8 (A5u b S) w (w.setCell ⟨g,at_,none⟩ (.int .u64 v)):=A8.set_ (A8.refl _ w) (p:=⟨g,at_,none⟩) (Or.inl (Or.inr (Or.inl hg))) _;have hM1:=hO1.mem (B8f hok at_ v h0 h1);have HS1:=Hz (F1h hs at_ v);have HOK1:=Hz (B8f hok at_ v h0 h1);have hin:2*M.half≤(at_:Int)→(at_:Int)<2*M.half+M.old:=fun _=>by omega
 have HIN:=Hz hin;have HO1:=Hz hO1;have HK1:=Hz hK1;have HM1:=Hz hM1;have hso:J3 M at_ v=if L4 (R5 M at_ v) (at_:Int)&&J5 (R5 M at_ v) v then A6p (R5 M at_ v) (at_:Int) else R5 M at_ v:=rfl
 rw[hso];have HLW:Hid ((at_:Int)<((R5 M at_ v).W.length:Int)):=by unfold Hid R5;simp only[Zd];omega
 generalize R5 M at_ v=M1 at *
 have HIN1:Hid (L4 M1 (at_:Int)=true→2*M1.half≤(at_:Int)∧(at_:Int)<2*M1.half+M1.old):=fun h=>by
  have q1:=of_decide_eq_true h;have q2:=HS1.out.w;exact⟨q1,by have:=HLW.out;omega⟩
 clear hM hO hg hgf hok hs hat hsw hO1 hK1 hM1 hin hso
 cases ho:L4 M1 (at_:Int) with
 | false =>
  have HOB:=Hz ho;clear ho
  go_enter Tryz.func51,Tryz.ntmps51
  go_wp2_with (go_at_call 101;refine (A1u _ _ b 0 M1 S HM1.out HS1.out).mono ?_;rintro e w' ⟨he,rfl⟩;rw[HOB.out] at he;subst he)
  go_returns
  exact⟨rfl,HO1.out,HK1.out⟩
 | true =>
  have HOB:=Hz ho;clear ho
  cases hy:J5 M1 v with
  | false =>
   have HYB:=Hz hy;clear hy
   go_enter Tryz.func51,Tryz.ntmps51
   go_wp2_with (first
    | (go_at_call 101;refine (A1u _ _ b 0 M1 S HM1.out HS1.out).mono ?_;rintro e w' ⟨he,rfl⟩;rw[HOB.out] at he;subst he)
    | (go_at_call 110;refine (B5k _ h0 h1 _ b 0 M1 S HM1.out HS1.out).mono ?_;rintro e w' ⟨he,rfl⟩;rw[HYB.out] at he;subst he))
   go_returns
   exact⟨rfl,HO1.out,HK1.out⟩
  | true =>
   have HYB:=Hz hy;clear hy;obtain⟨k1,k2⟩:=HIN1.out HOB.out
   go_enter Tryz.func51,Tryz.ntmps51
   go_wp2_with (first
    | (go_at_call 101;refine (A1u _ _ b 0 M1 S HM1.out HS1.out).mono ?_;rintro e w' ⟨he,rfl⟩;rw[HOB.out] at he;subst he)
    | (go_at_call 110;refine (B5k _ h0 h1 _ b 0 M1 S HM1.out HS1.out).mono ?_;rintro e w' ⟨he,rfl⟩;rw[HYB.out] at he;subst he)
    | (go_at_call 111;refine (F7q B b M1 S _ HO1.out HOK1.out HS1.out _ k1 k2).mono ?_;rintro e w2 ⟨rfl,hq1,hq2⟩;have HO2:=Hz hq1;have HK2:=Hz hq2;clear hq1 hq2))
   go_returns
   exact⟨rfl,HO2.out,A8.trans HK1.out HK2.out⟩
structure D9 where
 M:A7
 ten:Int
 base:Int
 top:Int
 mv:List (Int × Int)
 todo:List Int
structure Pl where
 c:Nat
 mb:Nat
 tv:Value
def mvE (l:List (Int × Int)):List (Int × Value):=l.map fun p=>(p.1,.int .i64 p.2)
def K6 (l:List Int):List Value:=l.map fun x=>.int .i64 x
def K0 (l:List (Int × Int)) (k:Int):Option Int:=(l.find? fun p=>k==p.1).map (·.2)
theorem C1p (l:List (Int × Int)) (k:Int):Y7 (mvE l) k=(K0 l k).map (.int .i64 ·):=by
 unfold Y7 K0 mvE
 induction l with
 | nil=>rfl
 | cons p l ih =>
  simp only[List.map_cons,List.find?_cons]
  cases (k==p.1) with
  | true=>rfl
  | false=>exact ih
theorem C1t (l:List (Int × Int)) (k v:Int) (h:K0 l k=none):A1z (mvE l) k (.int .i64 v)=mvE (l++[(k,v)]):=by
 induction l with
 | nil=>rfl
 | cons p l ih =>
  unfold K0 at h ih;simp only[List.find?_cons] at h
  cases hk:(k==p.1) with
  | true=>rw[hk] at h;cases h
  | false =>
   rw[hk] at h;simp only[mvE,List.map_cons,List.cons_append,A1z,hk,Bool.false_eq_true,if_false];congr 1;exact ih h
def G1 (b:Nat) (S:C8) (k:Nat):Prop:=k=b∨S.W.1=some ⟨k,0,none⟩∨S.R.1=some ⟨k,0,none⟩∨S.K.1=some ⟨k,0,none⟩∨S.I.1=some ⟨k,0,none⟩∨S.C.1=some ⟨k,0,none⟩
theorem D0f {b:Nat} {S:C8} {k:Nat} (h:A5u b S k):G1 b S k:=by
 rcases h with h|h|h
 ·exact Or.inl h
 ·exact Or.inr (Or.inl h)
 ·exact Or.inr (Or.inr (Or.inr (Or.inr (Or.inr h))))
theorem E0j {b:Nat} {S:C8} {tI:TypeId} {M:A7} {w:World} {B:Nat} (h:B7 w B b tI M S) {f:I6} (hf:f∈F3 tI M S) {k:Nat} (hk:f.val.ownBlock=some k):G1 b S k:=by
 have ho:=(h.fld f hf).2.1;have ha:f.a=some ⟨k,0,none⟩:=by
  rcases ho.2 with⟨h2,_⟩|⟨g,cap,cur,hv,_⟩
  ·rw[h2] at hk;cases hk
  ·rw[hv] at hk;simp[Value.ownBlock] at hk;subst hk;unfold I6.val at hv;injection hv
 simp only[F3,List.mem_cons,List.not_mem_nil,or_false] at hf;rcases hf with rfl|rfl|rfl|rfl|rfl<;>simp_all [G1]
theorem B7.keptA {w w':World} {B b:Nat} {tI:TypeId} {M:A7} {S:C8} (h:B7 w B b tI M S) (hk:∀ k,k<w.heap.size→G1 b S k→w'.heap[k]?=w.heap[k]?):B7 w' B b tI M S :=
 OM.kept h fun k hlt ho=>hk k hlt (by
  rcases ho with rfl|⟨f,hf,hv⟩
  ·exact Or.inl rfl
  ·exact E0j h hf hv)
structure G7 (w:World) (B b:Nat) (C:D9) (S:C8) (X:Pl):Prop where
 mem:B7 w B b 140 C.M S
 cB:B≤X.c
 mB:B≤X.mb
 cN:¬G1 b S X.c
 mN:¬G1 b S X.mb
 cm:X.c≠X.mb
 tN:∀ k,X.tv.ownBlock=some k→¬G1 b S k∧k≠X.c∧k≠X.mb
 blk:∃ cur t,w.heap[X.c]?=some (.cells cur t (0,0))
 f0:w.cell? ⟨X.c,0,none⟩=some (.pointer (some ⟨b,0,none⟩))
 f1:w.cell? ⟨X.c,1,none⟩=some (.int .i64 C.ten)
 f2:w.cell? ⟨X.c,2,none⟩=some (.int .i64 C.base)
 f3:w.cell? ⟨X.c,3,none⟩=some (.int .i64 C.top)
 f4:w.cell? ⟨X.c,4,none⟩=some (.map (some X.mb))
 f5:w.cell? ⟨X.c,5,none⟩=some X.tv
 map:N8 w X.mb .i64 (mvE C.mv)
 td:I9 w B 3 X.tv (K6 C.todo)
def Z3 (b:Nat) (S:C8) (X:Pl) (k:Nat):Prop:=G1 b S k∨k=X.c∨k=X.mb∨X.tv.ownBlock=some k
section
variable {w w':World} {B b:Nat} {C:D9} {S:C8} {X:Pl}
theorem G7.clt (h:G7 w B b C S X):X.c<w.heap.size:=by obtain⟨cur,t,hc⟩:=h.blk;exact lt_of_block hc
theorem G7.frozen (h:G7 w B b C S X) (j:Nat):w.frozen? ⟨X.c,j,none⟩=false:=by
 obtain⟨cur,t,hc⟩:=h.blk;simp[World.frozen?,hc]
theorem G7.ext (h:G7 w B b C S X) (k:A0 w w'):G7 w' B b C S X :=
 ⟨OM.ext h.mem k,h.cB,h.mB,h.cN,h.mN,h.cm,h.tN,by rw[Below.block k _ h.clt];exact h.blk,k.cell_ h.f0,k.cell_ h.f1,k.cell_ h.f2,k.cell_ h.f3,k.cell_ h.f4,k.cell_ h.f5,h.map.ext k,h.td.ext k⟩
theorem G7.onMem (h:G7 w B b C S X) {M':A7} (hm:B7 w' B b 140 M' S) (k:A8 (G1 b S) w w'):G7 w' B b {C with M:=M'} S X :=
 ⟨hm,h.cB,h.mB,h.cN,h.mN,h.cm,h.tN,by rw[k.block _ h.clt h.cN];exact h.blk,
  k.cell (p:=⟨X.c,0,none⟩) h.cN h.f0,k.cell (p:=⟨X.c,1,none⟩) h.cN h.f1,k.cell (p:=⟨X.c,2,none⟩) h.cN h.f2,k.cell (p:=⟨X.c,3,none⟩) h.cN h.f3,k.cell (p:=⟨X.c,4,none⟩) h.cN h.f4,k.cell (p:=⟨X.c,5,none⟩) h.cN h.f5,
  h.map.keep k h.mN,h.td.keep k fun g hg=>(h.tN g hg).1⟩
theorem G7.setTop (h:G7 w B b C S X) (v:Int):G7 (w.setCell ⟨X.c,3,none⟩ (.int .i64 v)) B b {C with top:=v} S X:=by
 have hb:∀ k,k≠X.c→(w.setCell ⟨X.c,3,none⟩ (.int .i64 v)).heap[k]?=w.heap[k]?:=fun k hk=>heap_setCell_other w _ k _ hk
 refine⟨h.mem.keptA fun k _ hk=>hb k (fun e=>h.cN (e ▸ hk)),h.cB,h.mB,h.cN,h.mN,h.cm,h.tN,A3g h.blk,?_,?_,?_,A1c h.f3,?_,?_,h.map.setCell _ _,h.td.kept fun g hg=>hb g (h.tN g hg).2.1⟩
 ·rw[J4 (by decide)];exact h.f0
 ·rw[J4 (by decide)];exact h.f1
 ·rw[J4 (by decide)];exact h.f2
 ·rw[J4 (by decide)];exact h.f4
 ·rw[J4 (by decide)];exact h.f5
theorem G7.put (h:G7 w B b C S X) (k v:Int) (hn:K0 C.mv k=none) (hm:N8 w' X.mb .i64 (A1z (mvE C.mv) k (.int .i64 v))) (hb:But X.mb w w'):G7 w' B b {C with mv:=C.mv++[(k,v)]} S X:=by
 have hc:∀ j u,w.cell? ⟨X.c,j,none⟩=some u→w'.cell? ⟨X.c,j,none⟩=some u:=fun j u hu=>by
  rw[World.cell?_of_block (w:=w) (a:=⟨X.c,j,none⟩) (hb.block _ h.cm)];exact hu
 refine⟨h.mem.keptA fun i _ hi=>hb.block i (fun e=>h.mN (e ▸ hi)),h.cB,h.mB,h.cN,h.mN,h.cm,h.tN,by rw[hb.block _ h.cm];exact h.blk,hc _ _ h.f0,hc _ _ h.f1,hc _ _ h.f2,hc _ _ h.f3,hc _ _ h.f4,hc _ _ h.f5,?_,h.td.kept fun g hg=>hb.block g (h.tN g hg).2.2⟩;rw[C1t _ _ _ hn] at hm;exact hm
theorem G7.ownC_lt (h:G7 w B b C S X) {k:Nat} (hk:Z3 b S X k):B≤k∨G1 b S k:=by
 rcases hk with hk|rfl|rfl|hk
 ·exact Or.inr hk
 ·exact Or.inl h.cB
 ·exact Or.inl h.mB
 ·exact Or.inl (h.td.lt hk).1
theorem G7.ownA_size (h:G7 w B b C S X) {k:Nat} (hk:G1 b S k):k<w.heap.size:=by
 rcases hk with rfl|hk|hk|hk|hk|hk
 ·exact OM.lt h.mem
 ·exact ((h.mem.fld ⟨3,78,1,S.W.1,C.M.W.length,S.W.2,C5 C.M.W⟩ (by simp[F3])).2.1.lt k (by simp[I6.val,hk,Value.ownBlock])).2
 ·exact ((h.mem.fld ⟨7,78,1,S.R.1,C.M.roots.length,S.R.2,C5 C.M.roots⟩ (by simp[F3])).2.1.lt k (by simp[I6.val,hk,Value.ownBlock])).2
 ·exact ((h.mem.fld ⟨8,78,1,S.K.1,C.M.weak.length,S.K.2,C5 C.M.weak⟩ (by simp[F3])).2.1.lt k (by simp[I6.val,hk,Value.ownBlock])).2
 ·exact ((h.mem.fld ⟨9,140,2,S.I.1,C.M.ids.length,S.I.2,G0 C.M.ids⟩ (by simp[F3])).2.1.lt k (by simp[I6.val,hk,Value.ownBlock])).2
 ·exact ((h.mem.fld ⟨10,4,1,S.C.1,C.M.cards.length,S.C.2,R7 C.M.cards⟩ (by simp[F3])).2.1.lt k (by simp[I6.val,hk,Value.ownBlock])).2
theorem G7.ownC_size (h:G7 w B b C S X) {k:Nat} (hk:Z3 b S X k):k<w.heap.size:=by
 rcases hk with hk|rfl|rfl|hk
 ·exact h.ownA_size hk
 ·exact h.clt
 ·exact h.map.lt
 ·exact (h.td.lt hk).2
theorem G7.kept (h:G7 w B b C S X) (hk:∀ k,Z3 b S X k→w'.heap[k]?=w.heap[k]?):G7 w' B b C S X:=by
 have hcb:=hk X.c (Or.inr (Or.inl rfl));have hc:∀ j u,w.cell? ⟨X.c,j,none⟩=some u→w'.cell? ⟨X.c,j,none⟩=some u:=fun j u hu=>by
  rw[World.cell?_of_block (w:=w) (a:=⟨X.c,j,none⟩) hcb];exact hu
 exact⟨h.mem.keptA fun k _ hA=>hk k (Or.inl hA),h.cB,h.mB,h.cN,h.mN,h.cm,h.tN,by rw[hcb];exact h.blk,hc _ _ h.f0,hc _ _ h.f1,hc _ _ h.f2,hc _ _ h.f3,hc _ _ h.f4,hc _ _ h.f5,
  h.map.of_block (hk _ (Or.inr (Or.inr (Or.inl rfl)))),h.td.kept fun g hg=>hk g (Or.inr (Or.inr (Or.inr hg)))⟩
theorem G7.work {w1:World} (h:G7 w B b C S X) (hk:A8 (fun k=>X.tv.ownBlock=some k) w w1) (v':Value) (l:List Int) (ht:I9 w1 B 3 v' (K6 l)) (hv:∀ k,v'.ownBlock=some k→X.tv.ownBlock=some k∨w.heap.size≤k) :
  G7 (w1.setCell ⟨X.c,5,none⟩ v') B b {C with todo:=l} S {X with tv:=v'}:=by
 have hcT:¬X.tv.ownBlock=some X.c:=fun e=>(h.tN _ e).2.1 rfl
 have hmT:¬X.tv.ownBlock=some X.mb:=fun e=>(h.tN _ e).2.2 rfl
 have hAlt:∀ k,G1 b S k→k<w.heap.size:=fun k hk=>h.ownA_size hk
 have hnew:∀ k,v'.ownBlock=some k→¬G1 b S k∧k≠X.c∧k≠X.mb:=fun k hk=>by
  rcases hv k hk with q|q
  ·exact h.tN k q
  ·exact⟨fun e=>by have:=hAlt k e;omega,fun e=>by have:=h.clt;omega,fun e=>by have:=h.map.lt;omega⟩
 have hb:∀ k,k≠X.c→(w1.setCell ⟨X.c,5,none⟩ v').heap[k]?=w1.heap[k]?:=fun k hk'=>heap_setCell_other w1 _ k _ hk'
 have hc:∀ j u,w.cell? ⟨X.c,j,none⟩=some u→w1.cell? ⟨X.c,j,none⟩=some u:=fun j u hu=>hk.cell (p:=⟨X.c,j,none⟩) hcT hu
 refine⟨?_,h.cB,h.mB,h.cN,h.mN,h.cm,hnew,A3g (by rw[hk.block _ h.clt hcT];exact h.blk),?_,?_,?_,?_,?_,A1c (hc _ _ h.f5),(h.map.keep hk hmT).setCell _ _,ht.kept fun g hg=>hb g (hnew g hg).2.1⟩
 ·exact h.mem.keptA fun k hlt hk'=>(hb k (fun e=>h.cN (e ▸ hk'))).trans (hk.block k hlt (fun e=>(h.tN k e).1 hk'))
 ·rw[J4 (by decide)];exact hc _ _ h.f0
 ·rw[J4 (by decide)];exact hc _ _ h.f1
 ·rw[J4 (by decide)];exact hc _ _ h.f2
 ·rw[J4 (by decide)];exact hc _ _ h.f3
 ·rw[J4 (by decide)];exact hc _ _ h.f4
end
def A3e (w:World) (B b:Nat) (S:C8) (X:Pl) (C':D9) (w':World):Prop :=
 ∃ X':Pl,X'.c=X.c∧X'.mb=X.mb∧G7 w' B b C' S X'∧A8 (Z3 b S X) w w'∧∀ k,Z3 b S X' k→Z3 b S X k∨w.heap.size≤k
def U4 (C:D9) (j:Nat):Int:=if C.ten≤F4 (A6 C.M.W j) then 2*C.M.half+C.M.oldTop else C.base+C.top
def B4j (C:D9) (j:Nat):Int:=J7 (B3 (A6 C.M.W j)) (if C.ten≤F4 (A6 C.M.W j) then 0 else min 15 (F4 (A6 C.M.W j)+1)) (G5 (A6 C.M.W j)) (B5 (A6 C.M.W j))
def L6 (C:D9) (j:Nat):D9 :=
 let h:=A6 C.M.W j
 let to:=(U4 C j).toNat
 {C with
  M:={C.M with W:=(splice C.M.W (to+1) ((C.M.W.drop (j+1)).take (B5 h).toNat)).set to (B4j C j),oldTop:=if C.ten≤F4 h then C.M.oldTop+(1+B5 h) else C.M.oldTop}
  top:=if C.ten≤F4 h then C.top else C.top+(1+B5 h)
  mv:=C.mv++[((j:Int),U4 C j)]
  todo:=if D2 (B3 h) then C.todo else C.todo++[U4 C j]}
def stays (M:A7) (a:Int):Bool:=!J5 M a
def F9 (C:D9) (a:Int):Int × D9 :=
 if stays C.M a then (a,C) else
 match K0 C.mv (C9 a) with
 | some to=>(D3 to,C)
 | none=>(D3 (U4 C (C9 a).toNat),L6 C (C9 a).toNat)
def A6a (C:D9):Nat→Nat→D9
 | _,0=>C
 | i,n+1=>let r:=F9 C (A6 C.M.W i);A6a {r.2 with M:=J3 r.2.M i r.1} (i+1) n
def O0 (C:D9) (a:Int):Int × Bool :=
 if stays C.M a then (a,true) else
 match K0 C.mv (C9 a) with
 | some to=>(D3 to,true)
 | none=>(D3 0,false)
def D3y (L:Nat→Prop) (w:World) (I:List Ob→World→Prop) (see:Ob→Bool) (M:A7) (e:Ending) (w':World):Prop :=
 ∃ v,e=.returned (.bool (M9 M see))∧I v w'∧(M9 M see=true→v=D8 M)∧A8 L w w'
theorem C9q (w0:World) (b o:Nat) (M:A7) (S:C8) (hs:G2 M) (hM:G8 w0 b o M S) (gb gs:Addr) (hG:A1o w0 gb) (hS:A0d w0 gs)
  (L:Nat→Prop) (g:Nat) (lb:Array Value) (eg:∀ args w,(callFunc g args).run Ze w=.ok (.enter g args) w) (see:Ob→Bool) (I:List Ob→World→Prop)
  (w:World) (hE:A0 w0 w) (hL:∀ k,L k→w0.heap.size≤k∧k<w.heap.size) (hX:∀ v w w',I v w→A0 w w'→I v w')
  (hC:∀ v x w',I v w'→A8 L w w'→ObM M x→Calls Ze g (#[.int .i64 (x.a:Int),A1g x.w]++lb) w' fun e w''=>e=.returned (.bool (see x))∧I (v++[x]) w''∧A8 L w' w'')
  (hI:I [] w) :
  Calls Ze 135 #[.pointer (some ⟨b,o,none⟩),.func (.func g) #[] lb] w (D3y L w I see M):=by
 obtain⟨hb,b0,b1⟩:=hs.base;have s1:=hs.h1;have s2:=hs.h2;have s3:=hs.t1;have s4:=hs.t2;have s5:=hs.p1;have s6:=hs.p2;have s7:=hs.o2;have s8:=hs.w;have hM1:=hM.ext hE;have c1:=hM1.half;have c2:=hM1.top;have c3:=hM1.oldTop;obtain⟨t,ht⟩:∃ t:Nat,M.top=t:=⟨M.top.toNat,by omega⟩;obtain⟨p,hp⟩:∃ p:Nat,M.oldTop=p:=⟨M.oldTop.toNat,by omega⟩;obtain⟨h,hh⟩:∃ h:Nat,M.half=h:=⟨M.half.toNat,by omega⟩;obtain⟨N1,hN1⟩:∃ N1:Nat,N1=M.base+t:=⟨_,rfl⟩;obtain⟨N2,hN2⟩:∃ N2:Nat,N2=2*h:=⟨_,rfl⟩;obtain⟨N3,hN3⟩:∃ N3:Nat,N3=2*h+p:=⟨_,rfl⟩;have eN:partN M=part M.W M.base N1:=by unfold partN;rw[ht,hN1];rfl
 have eO:partO M=part M.W N2 N3:=by unfold partO;rw[hp,hh,hN2,hN3];rfl
 have x1:Hid (N1=M.base+M.top.toNat):=by unfold Hid;rw[hN1,ht];rfl
 have x2:Hid (N2=(2*M.half).toNat):=by unfold Hid;rw[hN2,hh];rfl
 have x3:Hid (N3=(2*M.half).toNat+M.oldTop.toNat):=by unfold Hid;rw[hN3,hh,hp];rfl
 have E1:Hid (M.half=(h:Int)):=hh;have E2:Hid (M.top=(t:Int)):=ht;have E3:Hid (M.oldTop=(p:Int)):=hp;rw[hh] at c1;rw[ht] at c2;rw[hp] at c3;have w1:IntKind.i64.wrap ((M.base:Int)+(t:Int))=(N1:Int):=by rw[Za _ (by omega)];omega
 have w2:IntKind.i64.wrap (2*(h:Int))=(N2:Int):=by rw[Za _ (by omega)];omega
 have w3:IntKind.i64.wrap ((N2:Int)+(p:Int))=(N3:Int):=by rw[Za _ (by omega)];omega
 have HM:=Hz hM;have HG:=Hz hG;have HS:=Hz hS;have HE:=Hz hE;have HL:=Hz hL;have HX:=Hz hX;have HC:=Hz hC;have HI:Hid (I [] w):=hI;have HSH:=Hz hs;have HN:=Hz eN;have HO:=Hz eO;have k1:M.base≤N1∧N1≤M.W.length:=by omega
 have k2:N2≤N3∧N3≤M.W.length:=by omega
 have k3:M.W.length≤196608:=by omega
 obtain⟨k4,k5⟩:=k1;obtain⟨k6,k7⟩:=k2;clear hM hG hS hE hL hX hC hI hM1 hs eN eO s8 hb ht hp hh hN1 hN2 hN3 b0 b1 s1 s2 s3 s4 s5 s6 s7
 go_enter Tryz.func135,Tryz.ntmps135
 go_wp2
 cases h1:((part M.W M.base N1).2&&(part M.W M.base N1).1.all see) with
 | false =>
  have H1:=Hz h1;clear h1;refine wp_region_held_drew (S:=fun w'=>w'.cell? ⟨b,o,none⟩=some (.int .i64 (h:Int))∧w'.cell? ⟨b,o+5,none⟩=some (.int .i64 (t:Int))∧w'.cell? ⟨b,o+6,none⟩=some (.int .i64 (p:Int))) (by kernel_rfl) ?_ (fun hH=>?_)
  ·go_keep
  refine tJ 0 5 rfl ?_
  try simp only[A5]
  refine tJ 1 6 rfl ?_
  try simp only[A5]
  refine tJ 3 8 rfl ?_
  try simp only[A5]
  refine tJ 5 10 rfl ?_
  try simp only[A5]
  refine tJ 6 11 rfl ?_
  try simp only[A5]
  refine tJ 7 12 rfl ?_
  try simp only[A5]
  refine tJ 8 13 rfl ?_
  try simp only[A5]
  refine tJ 10 15 rfl ?_
  try simp only[A5]
  refine wpAnyH_ready (rs:=[2]) (by kernel_rfl) (by simp) ?_;refine AllReadyH.cons (o:=⟨some 7,_,_,_,_,_⟩) rfl (fun K hK=>?_) AllReadyH.nil;go_simp;refine (B3g _ b o M S ?_ HSH.out).mono ?_
  ·refine HM.out.ext ?_
   repeat (first|exact HE.out|exact A0.refl _|(refine A0.drew_ ?_)|(refine A0.drewN_ ?_ _))
  rintro e w' ⟨rfl,n,rfl⟩;refine hK.out _ _ ?_ (fun hH=>?_)
  ·(try dsimp only);go_keep
  clear hK K
  try simp only[A5]
  refine wpAnyH_ready (rs:=[4]) (by kernel_rfl) (by simp) ?_;refine AllReadyH.cons (o:=⟨some 9,_,_,_,_,_⟩) rfl (fun K hK=>?_) AllReadyH.nil;go_simp;refine (B3g _ b o M S ?_ HSH.out).mono ?_
  ·refine HM.out.ext ?_
   repeat (first|exact HE.out|exact A0.refl _|(refine A0.drew_ ?_)|(refine A0.drewN_ ?_ _))
  rintro e w' ⟨rfl,n,rfl⟩;refine hK.out _ _ ?_ (fun hH=>?_)
  ·(try dsimp only);go_keep
  clear hK K
  try simp only[A5]
  refine tJ 9 14 rfl ?_
  try simp only[A5]
  refine wpAnyH_ready (rs:=[11]) (by kernel_rfl) (by simp) ?_;refine AllReadyH.cons (o:=⟨some 16,_,_,_,_,_⟩) rfl (fun K hK=>?_) AllReadyH.nil;go_simp;refine (C0c w0 b o M S HM.out gb gs HG.out HS.out L g lb eg see I _ ?_ ?_ HX.out M.base N1 (by omega) k3 ?_ (by omega) [] ?_).mono ?_
  ·repeat (first|exact HE.out|exact A0.refl _|(refine A0.drew_ ?_)|(refine A0.drewN_ ?_ _))
  ·exact fun k hk=>⟨(HL.out k hk).1,by have h2:=(HL.out k hk).2;simpa using h2⟩
  ·exact fun v x w' hI hK hx=>HC.out v x w' hI (A8.trans (by repeat (first|exact A8.refl _ _|(refine A8.drew_ ?_)|(refine A8.drewN_ ?_ _))) hK) (Or.inl (x1.out ▸ hx))
  ·refine HX.out _ _ _ HI.out ?_
   repeat (first|exact HE.out|exact A0.refl _|(refine A0.drew_ ?_)|(refine A0.drewN_ ?_ _))
  rintro e w1 ⟨v1,he,hI1,hv1,hK1⟩;rw[H1.out] at he;subst he;have HK1:Hid (A8 L w w1):=A8.trans (by repeat (first|exact A8.refl _ _|(refine A8.drew_ ?_)|(refine A8.drewN_ ?_ _))) hK1;have hE1:=A0.keep HE.out HK1.out (fun i hi=>(HL.out i hi).1);have HE1:=Hz hE1;have hMM:=HM.out.ext hE1;have d1:=hMM.half;have d2:=hMM.top;have d3:=hMM.oldTop;rw[E1.out] at d1;rw[E2.out] at d2;rw[E3.out] at d3;clear hMM hE1;have HI1:=Hz hI1;have HV1:=Hz hv1;clear hI1 hv1 hK1;refine hK.out _ _ ?_ (fun hH=>?_)
  ·(try dsimp only);exact⟨d1,d2,d3⟩
  clear hK K
  try simp only[A5]
  refine tJ 12 17 rfl ?_
  try simp only[A5]
  refine tn 13 ⟨some 18,_,_,_,_,_⟩ rfl ?_
  try simp only[A5]
  refine tn 14 ⟨some 19,_,_,_,_,_⟩ rfl ?_
  try simp only[A5]
  refine tn 15 ⟨some 20,_,_,_,_,_⟩ rfl ?_
  try simp only[A5]
  refine tn 16 ⟨some 21,_,_,_,_,_⟩ rfl ?_
  try simp only[A5]
  refine tn 17 ⟨some 22,_,_,_,_,_⟩ rfl ?_
  try simp only[A5]
  refine tn 18 ⟨some 23,_,_,_,_,_⟩ rfl ?_
  try simp only[A5]
  refine tn 19 ⟨some 24,_,_,_,_,_⟩ rfl ?_
  try simp only[A5]
  refine tn 20 ⟨some 25,_,_,_,_,_⟩ rfl ?_
  try simp only[A5]
  refine tn 21 ⟨some 26,_,_,_,_,_⟩ rfl ?_
  try simp only[A5]
  refine tn 22 ⟨some 27,_,_,_,_,_⟩ rfl ?_
  try simp only[A5]
  refine tn 23 ⟨some 28,_,_,_,_,_⟩ rfl ?_
  try simp only[A5]
  refine tn 24 ⟨some 29,_,_,_,_,_⟩ rfl ?_
  try simp only[A5]
  refine tn 25 ⟨some 30,_,_,_,_,_⟩ rfl ?_
  try simp only[A5]
  refine tn 26 ⟨some 31,_,_,_,_,_⟩ rfl ?_
  try simp only[A5]
  refine tn 27 ⟨some 32,_,_,_,_,_⟩ rfl ?_
  try simp only[A5]
  refine tn 28 ⟨some 33,_,_,_,_,_⟩ rfl ?_
  try simp only[A5]
  refine tn 29 ⟨some 34,_,_,_,_,_⟩ rfl ?_
  try simp only[A5]
  refine tn 30 ⟨some 35,_,_,_,_,_⟩ rfl ?_
  try simp only[A5]
  refine tJ 31 36 rfl ?_
  try simp only[A5]
  refine tJ 32 4 rfl ?_
  try simp only[A5]
  refine wpAnyH_done (by kernel_rfl) ?_ _;go_wp2;go_ret;refine⟨v1,?_,HI1.out,fun e=>?_,HK1.out⟩
  ·unfold M9;rw[HN.out,H1.out];rfl
  ·unfold M9 at e;rw[HN.out,H1.out] at e;cases e
 | true =>
  have H1:=Hz h1;clear h1;refine wp_region_held_drew (S:=fun w'=>w'.cell? ⟨b,o,none⟩=some (.int .i64 (h:Int))∧w'.cell? ⟨b,o+5,none⟩=some (.int .i64 (t:Int))∧w'.cell? ⟨b,o+6,none⟩=some (.int .i64 (p:Int))) (by kernel_rfl) ?_ (fun hH=>?_)
  ·go_keep
  refine tJ 0 5 rfl ?_
  try simp only[A5]
  refine tJ 1 6 rfl ?_
  try simp only[A5]
  refine tJ 3 8 rfl ?_
  try simp only[A5]
  refine tJ 5 10 rfl ?_
  try simp only[A5]
  refine tJ 6 11 rfl ?_
  try simp only[A5]
  refine tJ 7 12 rfl ?_
  try simp only[A5]
  refine tJ 8 13 rfl ?_
  try simp only[A5]
  refine tJ 10 15 rfl ?_
  try simp only[A5]
  refine wpAnyH_ready (rs:=[2]) (by kernel_rfl) (by simp) ?_;refine AllReadyH.cons (o:=⟨some 7,_,_,_,_,_⟩) rfl (fun K hK=>?_) AllReadyH.nil;go_simp;refine (B3g _ b o M S ?_ HSH.out).mono ?_
  ·refine HM.out.ext ?_
   repeat (first|exact HE.out|exact A0.refl _|(refine A0.drew_ ?_)|(refine A0.drewN_ ?_ _))
  rintro e w' ⟨rfl,n,rfl⟩;refine hK.out _ _ ?_ (fun hH=>?_)
  ·(try dsimp only);go_keep
  clear hK K
  try simp only[A5]
  refine wpAnyH_ready (rs:=[4]) (by kernel_rfl) (by simp) ?_;refine AllReadyH.cons (o:=⟨some 9,_,_,_,_,_⟩) rfl (fun K hK=>?_) AllReadyH.nil;go_simp;refine (B3g _ b o M S ?_ HSH.out).mono ?_
  ·refine HM.out.ext ?_
   repeat (first|exact HE.out|exact A0.refl _|(refine A0.drew_ ?_)|(refine A0.drewN_ ?_ _))
  rintro e w' ⟨rfl,n,rfl⟩;refine hK.out _ _ ?_ (fun hH=>?_)
  ·(try dsimp only);go_keep
  clear hK K
  try simp only[A5]
  refine tJ 9 14 rfl ?_
  try simp only[A5]
  refine wpAnyH_ready (rs:=[11]) (by kernel_rfl) (by simp) ?_;refine AllReadyH.cons (o:=⟨some 16,_,_,_,_,_⟩) rfl (fun K hK=>?_) AllReadyH.nil;go_simp;refine (C0c w0 b o M S HM.out gb gs HG.out HS.out L g lb eg see I _ ?_ ?_ HX.out M.base N1 (by omega) k3 ?_ (by omega) [] ?_).mono ?_
  ·repeat (first|exact HE.out|exact A0.refl _|(refine A0.drew_ ?_)|(refine A0.drewN_ ?_ _))
  ·exact fun k hk=>⟨(HL.out k hk).1,by have h2:=(HL.out k hk).2;simpa using h2⟩
  ·exact fun v x w' hI hK hx=>HC.out v x w' hI (A8.trans (by repeat (first|exact A8.refl _ _|(refine A8.drew_ ?_)|(refine A8.drewN_ ?_ _))) hK) (Or.inl (x1.out ▸ hx))
  ·refine HX.out _ _ _ HI.out ?_
   repeat (first|exact HE.out|exact A0.refl _|(refine A0.drew_ ?_)|(refine A0.drewN_ ?_ _))
  rintro e w1 ⟨v1,he,hI1,hv1,hK1⟩;rw[H1.out] at he;subst he;have HK1:Hid (A8 L w w1):=A8.trans (by repeat (first|exact A8.refl _ _|(refine A8.drew_ ?_)|(refine A8.drewN_ ?_ _))) hK1;have hE1:=A0.keep HE.out HK1.out (fun i hi=>(HL.out i hi).1);have HE1:=Hz hE1;have hMM:=HM.out.ext hE1;have d1:=hMM.half;have d2:=hMM.top;have d3:=hMM.oldTop;rw[E1.out] at d1;rw[E2.out] at d2;rw[E3.out] at d3;clear hMM hE1;have HI1:=Hz hI1;have HV1:=Hz hv1;clear hI1 hv1 hK1;refine hK.out _ _ ?_ (fun hH=>?_)
  ·(try dsimp only);exact⟨d1,d2,d3⟩
  clear hK K
  try simp only[A5]
  refine tJ 12 17 rfl ?_
  try simp only[A5]
  refine tJ 13 18 rfl ?_
  try simp only[A5]
  refine tJ 14 19 rfl ?_
  try simp only[A5]
  refine tJ 15 20 rfl ?_
  try simp only[A5]
  refine tJ 16 21 rfl ?_
  try simp only[A5]
  refine tJ 17 22 rfl ?_
  try simp only[A5]
  refine tJ 18 23 rfl ?_
  try simp only[A5]
  refine tJ 19 24 rfl ?_
  try simp only[A5]
  refine tJ 20 25 rfl ?_
  try simp only[A5]
  refine tJ 21 26 rfl ?_
  try simp only[A5]
  refine tJ 22 27 rfl ?_
  try simp only[A5]
  refine tJ 23 28 rfl ?_
  try simp only[A5]
  refine tJ 24 29 rfl ?_
  try simp only[A5]
  refine tJ 25 30 rfl ?_
  try simp only[A5]
  refine tJ 26 31 rfl ?_
  try simp only[A5]
  refine tJ 27 32 rfl ?_
  try simp only[A5]
  refine tJ 28 33 rfl ?_
  try simp only[A5]
  refine tJ 29 34 rfl ?_
  try simp only[A5]
  refine wpAnyH_ready (rs:=[30]) (by kernel_rfl) (by simp) ?_;refine AllReadyH.cons (o:=⟨some 35,_,_,_,_,_⟩) rfl (fun K hK=>?_) AllReadyH.nil;go_simp;refine (C0c w0 b o M S HM.out gb gs HG.out HS.out L g lb eg see I _ ?_ ?_ HX.out N2 N3 (by omega) k3 ?_ (by omega) v1 ?_).mono ?_
  ·repeat (first|exact HE1.out|exact A0.refl _|(refine A0.drew_ ?_)|(refine A0.drewN_ ?_ _))
  ·exact fun k hk=>⟨(HL.out k hk).1,by have h2:=(HL.out k hk).2;have h3:=HK1.out.size;simp;omega⟩
  ·exact fun v x w' hI hK hx=>HC.out v x w' hI (A8.trans HK1.out (A8.trans (by repeat (first|exact A8.refl _ _|(refine A8.drew_ ?_)|(refine A8.drewN_ ?_ _))) hK)) (Or.inr (x3.out ▸ x2.out ▸ hx))
  ·refine HX.out _ _ _ HI1.out ?_
   repeat (first|exact HE1.out|exact A0.refl _|(refine A0.drew_ ?_)|(refine A0.drewN_ ?_ _))
  rintro e w2 ⟨v2,he,hI2,hv2,hK2⟩;subst he;have HK2:Hid (A8 L w w2):=A8.trans HK1.out (A8.trans (by repeat (first|exact A8.refl _ _|(refine A8.drew_ ?_)|(refine A8.drewN_ ?_ _))) hK2);have hMM:=HM.out.ext (A0.keep HE.out HK2.out (fun i hi=>(HL.out i hi).1));have d4:=hMM.half;have d5:=hMM.top;have d6:=hMM.oldTop;rw[E1.out] at d4;rw[E2.out] at d5;rw[E3.out] at d6;clear hMM;have HI2:=Hz hI2;have HV2:=Hz hv2;clear hI2 hv2 hK2;refine hK.out _ _ ?_ (fun hH=>?_)
  ·(try dsimp only);exact⟨d4,d5,d6⟩
  clear hK K
  try simp only[A5]
  refine tJ 31 36 rfl ?_
  try simp only[A5]
  refine tJ 32 4 rfl ?_
  try simp only[A5]
  refine wpAnyH_done (by kernel_rfl) ?_ _;go_wp2;go_ret;refine⟨v1++v2,?_,HI2.out,fun e=>?_,HK2.out⟩
  ·unfold M9;rw[HN.out,HO.out,H1.out];simp
  ·unfold M9 at e;rw[HN.out,HO.out,H1.out,Bool.true_and] at e;unfold D8;rw[HN.out,HO.out,HV1.out H1.out,HV2.out e]
theorem D6l (args:Array Value) (w:World):(callFunc 142 args).run Ze w=.ok (.enter 142 args) w :=
 enters_of Tryz.func142 (by kernel_rfl) rfl args w
theorem A0c:Ze.underlying 76=some (.slice 78):=by kernel_rfl
theorem A3w (w:World):(sizeOf 78).run Ze w=.ok 1 w:=by kernel_rfl
theorem B3v (M:A7) (x:Ob) (h:x.a+1+x.n≤M.W.length):((C5 M.W).drop (x.a+1)).take (x.a+1+x.n-(x.a+1))=C5 (flds M x):=by
 rw[show x.a+1+x.n-(x.a+1)=x.n by omega];apply Zb;intro i;by_cases hi:i<x.n
 ·simp[C5,flds,hi,A6,Zc,show x.a+1+i<M.W.length by omega]
 ·simp[C5,flds,hi];omega
theorem B6n (M:A7) (x:Ob) (k:Nat) (h:k<x.n):(flds M x).getD k 0=A6 M.W (x.a+1+k):=by simp[flds,Zc,h]
theorem C0d {M:A7} (h:M.Ok) (x:Ob) (z:Int) (hz:z∈flds M x):0≤z∧z≤18446744073709551615:=by
 obtain⟨i,_,rfl⟩:=List.mem_map.1 hz;exact O6 h _
theorem A6b (M:A7) (x:Ob):(flds M x).length=x.n:=by simp[flds]
def D3l (b6:Nat) (w:World) (M:A7) (st:List Int) (x:Ob) (c:Bool) (e:Ending) (w':World):Prop :=
 e=.returned (.bool (R2 M st x))∧w'.cell? ⟨b6,0,none⟩=some (.bool (c&&A1r M x))∧w'.frozen? ⟨b6,0,none⟩=false∧A8 (·=b6) w w'
theorem D6k (x:Ob) (b o b1 b3 b4 b5 b6 bm:Nat) (M:A7) (S:C8) (hs:G2 M) (st:List Int) (w0 w:World) (hE:A0 w0 w) (hM:G8 w0 b o M S) (hx:ObM M x) (c:Bool) (hm:N9 w bm .i64 st)
  (hb6:w0.heap.size≤b6) (n1:b1≠b6) (n3:b3≠b6) (n4:b4≠b6) (n5:b5≠b6) (nm:bm≠b6)
  (h1:w.cell? ⟨b1,0,none⟩=some (.pointer (some ⟨b,o,none⟩))) (h3:w.cell? ⟨b3,0,none⟩=some (.map (some bm)))
  (h4:w.cell? ⟨b4,0,none⟩=some (.func (.func 137) #[] #[.pointer (some ⟨b3,0,none⟩)]))
  (h5:w.cell? ⟨b5,0,none⟩=some (.func (.func 139) #[] #[.pointer (some ⟨b4,0,none⟩)]))
  (h6:w.cell? ⟨b6,0,none⟩=some (.bool c)) (f6:w.frozen? ⟨b6,0,none⟩=false) :
  Calls Ze 142 #[.int .i64 (x.a:Int),A1g x.w,.pointer (some ⟨b1,0,none⟩),.pointer (some ⟨b6,0,none⟩),.pointer (some ⟨b5,0,none⟩)] w (D3l b6 w M st x c):=by
 have hx1:A7r M.W 0 M.W.length x:=by
  have h1:=hs.h1;have h2:=hs.t2;have h3:=hs.p2;have h4:=hs.w;have h5:=hs.base;have h6:=hs.o2;have h7:=hs.t1;have h8:=hs.p1;rcases hx with hx|hx
  ·exact⟨hx.w,hx.hd,Nat.zero_le _,by have:=hx.to;omega⟩
  ·exact⟨hx.w,hx.hd,Nat.zero_le _,by have:=hx.to;omega⟩
 have hold:L4 M (x.a:Int)=true→(x.a:Int)+1+x.n≤2*M.half+M.old:=fun ho=>by
  have h1:=hs.h1;have h2:=hs.t2;have h3:=hs.p2;have h4:=hs.w;have h5:=hs.base;have h6:=hs.o2;have h7:=hs.t1;have h8:=hs.p1;have h9:=hx1.to;omega
 have hn:(x.n:Int)=B5 x.w:=by
  have:=hx1.w ▸ (O6 hM.ok x.a).1;unfold Ob.n B5;omega
 have hto:=hx1.to;have HX:=Hz hx1;clear hx hx1;have hlen:M.W.length≤196608:=by have h1:=hs.h2;have h2:=hs.o2;have h3:=hs.w;omega
 have hMw:G8 w b o M S:=hM.ext hE;have c_W:=hMw.W;have hcap:=hMw.capW;have hlt6:=B9 h6;have hlt1:=B9 h1;have hlt5:=B9 h5;have hltb:=hMw.lt;simp only at hlt6 hlt1 hlt5;obtain⟨wb,wo,hWa,-⟩:=hMw.rW 0 _ (K2 M.W 0 (by omega));rw[hWa] at c_W;have HWA:=Hz hWa;have HM:=Hz hM;have HE:=Hz hE;have HMW:=Hz hMw;have HSM:=Hz hm;have HSH:=Hz hs;have HOLD:=Hz hold;have H3:=Hz h3;have H4:=Hz h4;have H6:=Hz h6;have F6:=Hz f6;clear hM hE hMw hm hs hold hWa h3 h4;have HN:=Hz hn;have hn0:0≤B5 x.w:=by omega
 have hn1:(x.a:Int)+1+B5 x.w≤(M.W.length:Int):=by omega
 clear hn;unfold A1g
 cases hr:D2 (B3 x.w) with
 | true =>
  go_enter Tryz.func142,Tryz.ntmps142
  go_wp2_with (go_at_call 89;refine (A3l _ _).mono ?_;rintro e w' ⟨rfl,rfl⟩)
  go_ret;refine⟨by unfold R2;rw[hr];rfl,?_,?_,?_⟩
  ·rw[((A0.refl w).alloc_ _).cell_ H6.out];unfold A1r;rw[hr];simp
  ·rw[((A0.refl w).alloc_ _).three.2.1 _ _ hlt6];exact F6.out
  ·exact (A8.refl _ w).alloc_ _
 | false =>
  obtain⟨A,C,hsl,hAC,hAn,hRA⟩:=B4x (P:=Ze) A0c A3w wb wo M.W.length S.W.2 (x.a+1) (x.a+1+x.n) ((x.a:Int)+1) ((x.a:Int)+1+B5 x.w) (by omega) (by have:=HN.out;omega) (by omega) (by omega);have HRA:Hid (∀ wr,G8 wr b o M S→F7 wr A (C5 (flds M x))):=fun wr hr=>by
   have:=hRA wr _ (HWA.out ▸ hr.rW);rw[B3v M x hto] at this;exact this
  rw[show x.a+1+x.n-(x.a+1)=x.n by omega] at hsl hAC;clear hRA;have e1:IntKind.i64.wrap ((x.a:Int)+1)=(x.a:Int)+1:=Za _ (by omega);have e2:IntKind.i64.wrap ((x.a:Int)+1+B5 x.w)=(x.a:Int)+1+B5 x.w:=Za _ (by omega);have hc1:(x.a:Int)+1+B5 x.w≤(S.W.2:Int):=by omega
  have hc2:(0:Int)≤(x.a:Int)+1:=by omega
  have hc3:(x.a:Int)+1≤(x.a:Int)+1+B5 x.w:=by omega
  go_enter Tryz.func142,Tryz.ntmps142
  go_wp2_with (go_at_call 89;refine (A3l _ _).mono ?_;rintro e w' ⟨rfl,rfl⟩)
  go_quiet (fail)
  go_wp2
  go_loopw [28] (fun i wr=>∃ k:Nat,k≤x.n∧i=.int .i64 (k:Int)∧wr.cell? ⟨b6,0,none⟩=some (.bool (c&&A2v M x k))∧wr.frozen? ⟨b6,0,none⟩=false∧Hid (A8 (·=b6) w wr))
   (fun i _=>x.n-(intOf i).toNat)
  case atStart =>
   refine⟨0,Nat.zero_le _,rfl,?_,?_,((A8.refl _ w).alloc_ _).drewN_ _⟩
   ·have:=((A0.refl w).alloc_ (Obj.cells #[Value.int IntKind.i64 (B3 x.w),Value.int IntKind.i64 (F4 x.w),Value.int IntKind.i64 (G5 x.w),Value.int IntKind.i64 (B5 x.w)] 92)).cell_ H6.out;simpa [A2v] using this
   ·have:=((A0.refl w).alloc_ (Obj.cells #[Value.int IntKind.i64 (B3 x.w),Value.int IntKind.i64 (F4 x.w),Value.int IntKind.i64 (G5 x.w),Value.int IntKind.i64 (B5 x.w)] 92)).three.2.1 _ 0 hlt6;rw[F6.out] at this;simpa using this
  case round =>
   obtain⟨k,hk,rfl,h6r,f6r,hK⟩:=hrel;have hMR:G8 wr b o M S:=HM.out.ext (A0.keep HE.out hK.out fun i hi=>by subst hi;exact hb6);have HMR:=Hz hMR;have h1r:=hK.out.cell n1 h1;have h5r:=hK.out.cell n5 h5;have hRF:=HRA.out wr hMR;clear h1 h5 hMR;by_cases hlt:k<x.n
   ·obtain⟨ab,ao,hA,hcell⟩:=hRF k _ (K2 (flds M x) k (by rw[A6b];exact hlt));rw[B6n M x k hlt] at hcell;clear hRF;subst hA;have hin:=O6 HM.out.ok (x.a+1+k)
    cases ho:L4 M (x.a:Int) with
    | false =>
     have HCRD:Hid (crd M x k=true):=by simp[Hid,crd,ho]
     have hg1:True:=trivial;have hg2:True:=trivial
     go_wp2_with (first
      | (go_at_call 101;refine (A1u _ _ b o M S HMR.out HSH.out).mono ?_;rintro e w' ⟨rfl,rfl⟩))
     go_roundw
     case rel =>
      refine⟨k+1,by omega,by go_num,?_,f6r,hK⟩;rw[A8z,HCRD.out,Bool.and_true];exact h6r
     case measure=>simp[intOf];omega
    | true =>
     have hg1:2*M.half≤(x.a:Int)+1+k:=by have:=of_decide_eq_true ho;omega
     have hg2:(x.a:Int)+1+k<2*M.half+M.old:=by have:=HOLD.out ho;omega
     cases hy:J5 M (A6 M.W (x.a+1+k)) with
     | false =>
      have HCRD:Hid (crd M x k=true):=by simp[Hid,crd,hy]
      go_wp2_with (first
       | (go_at_call 101;refine (A1u _ _ b o M S HMR.out HSH.out).mono ?_;rintro e w' ⟨rfl,rfl⟩)
       | (go_at_call 110;refine (B5k _ hin.1 hin.2 _ b o M S HMR.out HSH.out).mono ?_;rintro e w' ⟨rfl,rfl⟩))
      go_roundw
      case rel =>
       refine⟨k+1,by omega,by go_num,?_,f6r,hK⟩;rw[A8z,HCRD.out,Bool.and_true];exact h6r
      case measure=>simp[intOf];omega
     | true =>
      cases hq:A0e M ((x.a:Int)+1+k) with
      | true =>
       have HCRD:Hid (crd M x k=true):=by simp[Hid,crd,hq]
       go_wp2_with (first
        | (go_at_call 101;refine (A1u _ _ b o M S HMR.out HSH.out).mono ?_;rintro e w' ⟨rfl,rfl⟩)
        | (go_at_call 110;refine (B5k _ hin.1 hin.2 _ b o M S HMR.out HSH.out).mono ?_;rintro e w' ⟨rfl,rfl⟩)
        | (go_at_call 143;refine (C8j _ _ b o M S HMR.out HSH.out hg1 hg2).mono ?_;rintro e w' ⟨rfl,n,rfl⟩))
       go_roundw
       case rel =>
        refine⟨k+1,by omega,by go_num,?_,by simpa using f6r,hK.out.drewN_ _⟩;rw[A8z,HCRD.out,Bool.and_true];simpa using h6r
       case measure=>simp[intOf];omega
      | false =>
       have HCRD:Hid (crd M x k=false):=by simp[Hid,crd,ho,hy,hq]
       go_wp2_with (first
        | (go_at_call 101;refine (A1u _ _ b o M S HMR.out HSH.out).mono ?_;rintro e w' ⟨rfl,rfl⟩)
        | (go_at_call 110;refine (B5k _ hin.1 hin.2 _ b o M S HMR.out HSH.out).mono ?_;rintro e w' ⟨rfl,rfl⟩)
        | (go_at_call 143;refine (C8j _ _ b o M S HMR.out HSH.out hg1 hg2).mono ?_;rintro e w' ⟨rfl,n,rfl⟩))
       go_roundw
       case rel =>
        refine⟨k+1,by omega,by go_num,?_,?_,?_⟩
        ·rw[A8z,HCRD.out,Bool.and_false,Bool.and_false];simp[h6r,go_sem]
        ·simp[f6r,go_sem]
        ·exact (hK.out.drewN_ _).set_ (Or.inl rfl) _
       case measure=>simp[intOf];omega
   ·have hkn:k=x.n:=by omega
    subst hkn;have hc3:=A8y A C (flds M x) (by rw[A6b];omega) (fun z hz=>C0d HM.out.ok x z hz) bm b3 b4 st wr hRF (HSM.out.keep hK.out nm) (hK.out.cell n3 H3.out) (hK.out.cell n4 H4.out);rw[A6b] at hc3;clear hRF
    go_wp2_with (go_at_call 139;refine hc3.mono ?_;rintro e w' ⟨rfl,hq⟩)
    go_ret;refine⟨by unfold R2;rw[hr];rfl,?_,?_,hK.out.ext_ hq⟩
    ·rw[hq.cell_ h6r];unfold A1r;rw[hr];rfl
    ·rw[hq.three.2.1 _ _ (B9 h6r)];exact f6r
theorem D5l (v:List Ob) (x:Ob):(v++[x]).map (fun o=>(o.a:Int))=v.map (fun o=>(o.a:Int))++[(x.a:Int)]:=by simp
def D3k (bm:Nat) (w:World) (M:A7) (e:Ending) (w':World):Prop :=
 e=.returned (.bool (M9 M (L3 M)))∧(M9 M (L3 M)=true→N9 w' bm .i64 (C6 M))∧A8 (·=bm) w w'
theorem B4n (w0:World) (b o:Nat) (M:A7) (S:C8) (hs:G2 M) (hM:G8 w0 b o M S) (gb gs:Addr) (hG:A1o w0 gb) (hS:A0d w0 gs) (bm b3 b1:Nat) (w:World) (hE:A0 w0 w)
  (hbm:w0.heap.size≤bm) (hne3:b3≠bm) (hne1:b1≠bm) (hm:N9 w bm .i64 []) (h3:w.cell? ⟨b3,0,none⟩=some (.map (some bm))) (h1:w.cell? ⟨b1,0,none⟩=some (.pointer (some ⟨b,o,none⟩))) :
  Calls Ze 135 #[.pointer (some ⟨b,o,none⟩),.func (.func 136) #[] #[.pointer (some ⟨b3,0,none⟩),.pointer (some ⟨b1,0,none⟩)]] w (D3k bm w M):=by
 refine (C9q w0 b o M S hs hM gb gs hG hS (·=bm) _ #[.pointer (some ⟨b3,0,none⟩),.pointer (some ⟨b1,0,none⟩)] D6h (L3 M) (fun v w'=>N9 w' bm .i64 (v.map fun (y:Ob)=>(y.a:Int))) w hE
  (fun k hk=>by subst hk;exact⟨hbm,hm.lt⟩) (fun v w1 w2 hI hx=>hI.ext hx) (fun v x w' hI hK hx=>?_) hm).mono ?_
 ·have:=D6g x b o bm b3 b1 M S hs (v.map fun (y:Ob)=>(y.a:Int)) w0 w' (hE.keep hK fun i hi=>by subst hi;exact hbm) hM hI hbm hne3 hne1 (hK.cell hne3 h3) (hK.cell hne1 h1);rw[←D5l] at this;exact this
 ·rintro e w' ⟨v,he,hI,hv,hK⟩;exact⟨he,fun h=>by rw[hv h] at hI;exact hI,hK⟩
def D3m (b6:Nat) (w:World) (M:A7) (st:List Int) (e:Ending) (w':World):Prop :=
 e=.returned (.bool (M9 M (R2 M st)))∧(M9 M (R2 M st)=true→w'.cell? ⟨b6,0,none⟩=some (.bool (A0p M)))∧A8 (·=b6) w w'
theorem C9p (w0:World) (b o:Nat) (M:A7) (S:C8) (hs:G2 M) (hM:G8 w0 b o M S) (gb gs:Addr) (hG:A1o w0 gb) (hS:A0d w0 gs) (b1 b3 b4 b5 b6 bm:Nat) (st:List Int) (w:World) (hE:A0 w0 w)
  (hb6:w0.heap.size≤b6) (n1:b1≠b6) (n3:b3≠b6) (n4:b4≠b6) (n5:b5≠b6) (nm:bm≠b6) (hm:N9 w bm .i64 st)
  (h1:w.cell? ⟨b1,0,none⟩=some (.pointer (some ⟨b,o,none⟩))) (h3:w.cell? ⟨b3,0,none⟩=some (.map (some bm)))
  (h4:w.cell? ⟨b4,0,none⟩=some (.func (.func 137) #[] #[.pointer (some ⟨b3,0,none⟩)]))
  (h5:w.cell? ⟨b5,0,none⟩=some (.func (.func 139) #[] #[.pointer (some ⟨b4,0,none⟩)]))
  (h6:w.cell? ⟨b6,0,none⟩=some (.bool true)) (f6:w.frozen? ⟨b6,0,none⟩=false) :
  Calls Ze 135 #[.pointer (some ⟨b,o,none⟩),.func (.func 142) #[] #[.pointer (some ⟨b1,0,none⟩),.pointer (some ⟨b6,0,none⟩),.pointer (some ⟨b5,0,none⟩)]] w (D3m b6 w M st):=by
 refine (C9q w0 b o M S hs hM gb gs hG hS (·=b6) _ #[.pointer (some ⟨b1,0,none⟩),.pointer (some ⟨b6,0,none⟩),.pointer (some ⟨b5,0,none⟩)] D6l (R2 M st)
  (fun v w'=>w'.cell? ⟨b6,0,none⟩=some (.bool (v.all (A1r M)))∧w'.frozen? ⟨b6,0,none⟩=false) w hE
  (fun k hk=>by subst hk;exact⟨hb6,B9 h6⟩) (fun v w1 w2 hI hx=>⟨hx.cell_ hI.1,by rw[hx.three.2.1 _ _ (B9 hI.1)];exact hI.2⟩) (fun v x w' hI hK hx=>?_) ⟨h6,f6⟩).mono ?_
 ·have:=D6k x b o b1 b3 b4 b5 b6 bm M S hs st w0 w' (hE.keep hK fun i hi=>by subst hi;exact hb6) hM hx (v.all (A1r M)) (hm.keep hK nm) hb6 n1 n3 n4 n5 nm (hK.cell n1 h1) (hK.cell n3 h3) (hK.cell n4 h4) (hK.cell n5 h5) hI.1 hI.2;refine this.mono ?_;rintro e w2 ⟨he,h7,h8,h9⟩;exact⟨he,⟨by rw[h7];simp[List.all_append],h8⟩,h9⟩
 ·rintro e w' ⟨v,he,hI,hv,hK⟩;exact⟨he,fun h=>by rw[hI.1,hv h];rfl,hK⟩
def lst (n k:Nat):Array Bool:=((List.range n).map fun i=>decide (i<k)).toArray
theorem E5l (n:Nat):Array.replicate n false=lst n 0:=by
 apply Array.ext';simp only[lst,Array.toList_replicate];apply Zb;intro i;by_cases h:i<n<;>simp[h]
theorem E5k (n k:Nat):(lst n k).setIfInBounds k true=lst n (k+1):=by
 apply Array.ext';simp only[lst,Array.toList_setIfInBounds];apply Zb;intro i;rw[List.getElem?_set];by_cases h:i<n
 ·by_cases e:k=i
  ·subst e;simp[h]
  ·simp[h,e];omega
 ·simp[h];omega
def E6 (md:Region.Mode) (ops:Array Oper) (n k:Nat):Bool:=(Region.ready md ops (lst n k)).contains k&&Region.free md ops (lst n k) k
theorem C7y (md:Region.Mode) (ops:Array Oper) (n:Nat) (h:∀ k,k<n→E6 md ops n k=true) (he:(Region.ready md ops (lst n n)).isEmpty=true) :
  ∀ f k,f+k=n→Region.lexFrom md ops f k (lst n k)=true
 | 0,k,hk=>by
  have:k=n:=by omega
  subst this;exact he
 | f+1,k,hk=>by
  have h1:=h k (by omega);unfold E6 at h1;unfold Region.lexFrom;rw[h1,E5k,C7y md ops n h he f (k+1) (by omega)];rfl
theorem E4w (md:Region.Mode) (ops:Array Oper) (n:Nat) (hn:ops.size=n) (hs:Region.noSelect ops=true) (h:∀ k,k<n→E6 md ops n k=true) (he:(Region.ready md ops (lst n n)).isEmpty=true):Region.lexB md ops=true:=by
 unfold Region.lexB;rw[hs,hn,E5l,C7y md ops n h he n 0 (by omega)];rfl
def A9p:Code→List (List Oper)
 | .region _ ops _=>[ops.toList]
 | .seq a b=>A9p a++A9p b
 | .cond _ a b=>A9p a++A9p b
 | .block _ c=>A9p c
 | .loop c=>A9p c
 | .scope c=>A9p c
 | _=>[]
def F0p (f:Func) (k:Nat):List Oper:=((f.body.map A9p).getD []).getD k []
end Go.Proofs.YtelhoppfidibiaaGreatDoor
