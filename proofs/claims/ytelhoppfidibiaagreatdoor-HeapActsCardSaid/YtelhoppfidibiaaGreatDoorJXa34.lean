/- Numbers, weak references, texts of a memory that holds an ideal one: plainly. -/
import Derived.Test.YtelhoppfidibiaaGreatDoorJXa33
set_option linter.unusedSectionVars false
set_option linter.unusedSimpArgs false
set_option linter.unusedVariables false
set_option maxHeartbeats 4000000
set_option maxRecDepth 100000
namespace Go.Proofs.YtelhoppfidibiaaGreatDoor
open Go.RowKit
open Bool renaming false_eq_true→Za
open List renaming getD_eq_getElem?_getD→Zb,getElem?_eq_getElem→Zc,getElem?_eq_none→Zd,getElem_append_right→Ze,getElem_singleton→Zf,length_singleton→Zg,mem_append→Zh,mem_singleton→Zi
open Nat renaming add_assoc→Zj,le_refl→Zk
def B4.addId (I:B4) (u s:Int):B4:={I with ids:=I.ids++[(u,s)]}
def B4.addWeak (I:B4) (u:Int):B4:={I with weak:=I.weak++[u]}
theorem B2i {u:Int} {a:Nat} (h:B6 u=(a:Int)):u=(a:Int)*4+4:=by
 obtain⟨h1,h2,h3⟩:=B0w h;unfold C7 at h1;unfold C9 at h3;omega
theorem C0k {α:Type} {l:List α} {x d:α} {i:Nat} (h:i<l.length):(l++[x]).getD i d=l.getD i d:=by
 simp[Zb,List.getElem?_append_left h]
theorem C5z {α:Type} {l:List α} {x d:α}:(l++[x]).getD l.length d=x:=by
 simp[Zb]
section
variable {I:B4} {M:A7} {D:Nat→Prop} {f:Nat→Nat} {ten nx:Int}
theorem K7.root_at (h:K7 I M D f) {r a:Nat} (hr:r<I.roots.length) (hp:B6 (I.roots.getD r 0)=(a:Int)):D a∧B6 (M.roots.getD r 0)=(f a:Int)∧Q6 f D (I.roots.getD r 0) (M.roots.getD r 0):=by
 have hc:=h.roots r hr;rcases hc with⟨q,-⟩|⟨b,c1,c2,c3,c4⟩
 ·omega
 ·obtain rfl:b=a:=by omega
  exact⟨c2,c3,Or.inr ⟨b,c1,c2,c3,c4⟩⟩
theorem K7.root_no (h:K7 I M D f) {r:Nat} (hr:r<I.roots.length) (hp:B6 (I.roots.getD r 0)<0):M.roots.getD r 0=I.roots.getD r 0:=by
 rcases h.roots r hr with⟨q,e⟩|⟨b,c1,-⟩
 ·exact e
 ·omega
theorem E9s {u:Int} {a:Nat} (h:B6 u=(a:Int)):A1k u=true:=by
 obtain⟨h1,h2,-⟩:=B0w h;unfold A1k;rw[h1];simpa using h2
theorem K7.ser_old (h:K7 I M D f) {r a i:Nat} (hr:r<I.roots.length) (hp:B6 (I.roots.getD r 0)=(a:Int)) (hi:i<M.ids.length) (he:(M.ids.getD i (0,0)).1=M.roots.getD r 0):∃ u,(u,(M.ids.getD i (0,0)).2)∈I.ids∧B6 u=(a:Int):=by
 have hm:((M.ids.getD i (0,0)).1,(M.ids.getD i (0,0)).2)∈M.ids:=by
  rw[Zb,Zc hi];exact List.getElem_mem hi
 obtain⟨u,h1,h2⟩:=h.ids2 _ _ hm;refine⟨u,h1,?_⟩;obtain⟨r1,r2,-⟩:=h.root_at hr hp;rw[he] at h2;rcases h2 with⟨q,e⟩|⟨b,c1,c2,c3,-⟩
 ·rw[e] at r2;omega
 ·rw[c1,h.morph.inj b a c2 r1 (by omega)]
theorem K7.ser_new (h:K7 I M D f) {r a:Nat} (hr:r<I.roots.length) (hp:B6 (I.roots.getD r 0)=(a:Int)) (hn:∀ x∈M.ids,x.1≠M.roots.getD r 0) (s:Int) :
  (∀ u s,(u,s)∈I.ids→B6 u≠(a:Int))∧K7 (I.addId (I.roots.getD r 0) s) {M with ids:=M.ids++[(M.roots.getD r 0,s)]} D f:=by
 obtain⟨r1,r2,r3⟩:=h.root_at hr hp;refine⟨fun u t hu e=>?_,h.morph,h.dom,h.apart,h.obj,h.lenR,h.roots,h.lenK,h.weak,fun u t hu b hb hd=>?_,fun v t hv=>?_,h.wkV,fun u t hu=>?_,h.nodes⟩
 ·obtain⟨v,c,hv⟩:=h.ids1 u t hu a e r1;rcases c with⟨q,-⟩|⟨b,c1,c2,c3,-⟩
  ·omega
  ·obtain rfl:b=a:=by omega
   exact hn _ hv ((B2i c3).trans (B2i r2).symm)
 ·rcases Zh.1 hu with q|q
  ·obtain⟨v,c,hv⟩:=h.ids1 u t q b hb hd;exact⟨v,c,Zh.2 (Or.inl hv)⟩
  ·simp only[Zi,Prod.mk.injEq] at q;obtain⟨rfl,rfl⟩:=q;exact⟨_,r3,Zh.2 (Or.inr (by simp))⟩
 ·rcases Zh.1 hv with q|q
  ·obtain⟨u,hu,c⟩:=h.ids2 v t q;exact⟨u,Zh.2 (Or.inl hu),c⟩
  ·simp only[Zi,Prod.mk.injEq] at q;obtain⟨rfl,rfl⟩:=q;exact⟨_,Zh.2 (Or.inr (by simp)),r3⟩
 ·rcases Zh.1 hu with q|q
  ·exact h.idV u t q
  ·simp only[Zi,Prod.mk.injEq] at q;obtain⟨rfl,rfl⟩:=q;show B6 (I.roots.getD r 0)<(I.V.length:Int);have:=h.dom a r1;omega
theorem K7.addWeak (h:K7 I M D f) {r a:Nat} (hr:r<I.roots.length) (hp:B6 (I.roots.getD r 0)=(a:Int)):K7 (I.addWeak (I.roots.getD r 0)) {M with weak:=M.weak++[M.roots.getD r 0]} D f:=by
 obtain⟨r1,r2,r3⟩:=h.root_at hr hp;have hk:=h.lenK;have hcase:∀ i,i<(I.weak++[I.roots.getD r 0]).length→(i<I.weak.length∧(I.weak++[I.roots.getD r 0]).getD i 0=I.weak.getD i 0∧(M.weak++[M.roots.getD r 0]).getD i 0=M.weak.getD i 0)∨((I.weak++[I.roots.getD r 0]).getD i 0=I.roots.getD r 0∧(M.weak++[M.roots.getD r 0]).getD i 0=M.roots.getD r 0):=fun i hi=>by
  by_cases q:i<I.weak.length
  ·exact Or.inl ⟨q,C0k q,C0k (by rw[←hk];exact q)⟩
  ·have:i=I.weak.length:=by simp at hi;omega
   subst this;refine Or.inr ⟨C5z,?_⟩;rw[hk];exact C5z
 refine⟨h.morph,h.dom,h.apart,h.obj,h.lenR,h.roots,by show (I.weak++_).length=(M.weak++_).length;simp[hk],fun i hi=>?_,h.ids1,h.ids2,fun i hi=>?_,h.idV,h.nodes⟩
 ·show Q6 f D ((I.weak++[I.roots.getD r 0]).getD i 0) ((M.weak++[M.roots.getD r 0]).getD i 0)∨_;rcases hcase i hi with⟨q,e1,e2⟩|⟨e1,e2⟩
  ·have hw:=h.weak i q;rw[←e1,←e2] at hw;exact hw
  ·rw[e1,e2];exact Or.inl r3
 ·show B6 ((I.weak++[I.roots.getD r 0]).getD i 0)<(I.V.length:Int);rcases hcase i hi with⟨q,e1,-⟩|⟨e1,-⟩
  ·rw[e1];exact h.wkV i q
  ·rw[e1];have:=h.dom a r1;omega
theorem K7.look (h:K7 I M D f) {i a:Nat} (hi:i<I.weak.length) (hp:B6 (I.weak.getD i 0)=(a:Int)) (t:Nat) :
  (C7 (M.weak.getD i 0)=0∧K7 (I.setR t (I.weak.getD i 0)) (Z1 M t (M.weak.getD i 0)) D f∧D a)∨(M.weak.getD i 0=2∧K7 (I.setR t 2) (Z1 M t (M.weak.getD i 0)) D f∧¬D a):=by
 rcases h.weak i hi with c|⟨c1,b,c2,c3⟩
 ·left;have c0:=c;rcases c with⟨q,-⟩|⟨b,q1,q2,q3,q4,q5,q6,q7⟩
  ·omega
  ·obtain rfl:b=a:=by omega
   exact⟨q6,h.setR t c0,q2⟩
 ·right;obtain rfl:b=a:=by omega
  refine⟨c1,?_,c3⟩;rw[c1];exact h.setR t (Or.inl ⟨by decide,rfl⟩)
theorem K7.gone (h:K7 I M D f) (hg:goodB M=true) {a:Nat} (ha:¬D a):¬a∈(K4 I).map (·.a):=fun hm=>by
 obtain⟨o,ho,rfl⟩:=List.mem_map.1 hm;exact ha ((h.reach hg).2.1 o ho).1
end
theorem E2q (W:World) (xb:Nat) (u a s:Int) (h:W.cell? ⟨xb,0,none⟩=some (.int .u64 u)) :
  Calls Tryz.prog 107 #[.agg #[.int .u64 a,.int .i64 s],.pointer (some ⟨xb,0,none⟩)] W fun e w'=>e=.returned (.bool (a==u))∧A0 W w':=by
 have h2:∀ o,(W.alloc o).cell? ⟨xb,0,none⟩=some (.int .u64 u):=fun o=>((A0.refl W).alloc_ o).cell_ h
 cases hq:(a==u) with
 | true =>
  have e:a=u:=by simpa using hq
  subst e
  go_enter Tryz.func107,Tryz.ntmps107
  go_wp2;go_ret;exact⟨rfl,(A0.refl _).alloc_ _⟩
 | false =>
  have e:¬a=u:=by simpa using hq
  go_enter Tryz.func107,Tryz.ntmps107
  go_wp2;go_ret;exact⟨rfl,(A0.refl _).alloc_ _⟩
def D3q (ids:List (Int × Int)) (u n:Int):Prop:=(n=-1∧∀ x∈ids,x.1≠u)∨∃ i:Nat,n=(i:Int)∧i<ids.length∧(ids.getD i (0,0)).1=u
theorem E3m (xb:Nat) (u:Int) (ia:Option Addr) (c:Nat) (ids:List (Int × Int)) (w:World) (hz:ids.length≤9223372036854775807) (hR:F7 w ia (G0 ids)) (hx:w.cell? ⟨xb,0,none⟩=some (.int .u64 u)) :
  Calls Tryz.prog 106 #[.slice ia ids.length c,.func (.func 107) #[] #[.pointer (some ⟨xb,0,none⟩)]] w fun e w'=>∃ n:Int,e=.returned (.int .i64 n)∧D3q ids u n∧A0 w w':=by
 have HR:=Hz hR;have HX:=Hz hx;clear hR hx
 go_enter Tryz.func106,Tryz.ntmps106
 go_wp2
 go_loopw [5,8] (fun _ i wr=>∃ k:Nat,k≤ids.length∧i=.int .i64 (k:Int)∧Hid (A0 w wr)∧Hid (∀ j,j<k→(ids.getD j (0,0)).1≠u))
  (fun _ i _=>ids.length-(intOf i).toNat)
 case atStart=>exact⟨0,Nat.zero_le _,rfl,A0.refl w,fun j hj=>absurd hj (Nat.not_lt_zero _)⟩
 case round =>
  obtain⟨k,hk,rfl,hE,hA⟩:=hrel;by_cases hlt:k<ids.length
  ·obtain⟨p0,p1⟩:=A6u ids k hlt;obtain⟨ib,io,hIa,c0⟩:=(HR.out.ext hE.out) _ _ p0;have hRs:=HR.out.ext hE.out;rw[hIa] at hRs;have c1:=hRs.at_ p1;rw[←Zj] at c1;obtain rfl:ia=some ⟨ib,io,none⟩:=hIa;have hltz:(k:Int)<(ids.length:Int):=by omega
   have hgd:ids.getD k (0,0)=ids[k]:=by rw[Zb,Zc hlt];rfl
   have HGD:=Hz hgd;have hcall:=E2q wr xb u ids[k].1 ids[k].2 (hE.out.cell_ HX.out);generalize ids[k]=x at *
   have hibz:=B9 c0;simp only at hibz;clear hRs p0 p1 hgd
   cases hq:(x.1==u) with
   | true =>
    have HQ:Hid (x.1=u):=by simpa [Hid] using hq
    rw[hq] at hcall;clear hq;have HCL:=Hz hcall;clear hcall
    go_wp2_with (go_at_call 107;refine HCL.out.mono ?_;rintro e w' ⟨rfl,hb'⟩;have HB':Hid (A0 w w'):=hE.out.trans_ hb';clear hb')
    go_ret;exact⟨_,rfl,Or.inr ⟨k,rfl,hlt,by rw[HGD.out];exact HQ.out⟩,HB'.out⟩
   | false =>
    have HQ:Hid (x.1≠u):=by simpa [Hid] using hq
    rw[hq] at hcall;clear hq;have HCL:=Hz hcall;clear hcall
    go_wp2_with (go_at_call 107;refine HCL.out.mono ?_;rintro e w' ⟨rfl,hb'⟩;have HB':Hid (A0 w w'):=hE.out.trans_ hb';clear hb')
    go_roundw
    case rel=>exact⟨k+1,by omega,by go_num,HB'.out,fun j hj=>by
     by_cases e:j=k
     ·subst e;rw[HGD.out];exact HQ.out
     ·exact hA.out j (by omega)⟩
    case measure=>simp[intOf];omega
  ·have hltz:¬(k:Int)<(ids.length:Int):=by omega
   go_wp2;go_ret;refine⟨_,rfl,Or.inl ⟨rfl,fun x hx=>?_⟩,hE.out⟩;obtain⟨j,hj,rfl⟩:=List.mem_iff_getElem.1 hx;have:=hA.out j (by omega);rw[Zb,Zc hj] at this;exact this
section
variable {B hb b:Nat} {M:A7} {S:C8} {E:Nat→Addr} {ten nx:Int}
theorem E7.setNext {w:World} (h:E7 w B hb b M S ten nx) (x:Int):E7 (w.setCell ⟨hb,2,none⟩ (.int .i64 x)) B hb b M S ten x∧D7 hb b w S (w.setCell ⟨hb,2,none⟩ (.int .i64 x)) S:=by
 have hm:B7 (w.setCell ⟨hb,2,none⟩ (.int .i64 x)) B b 140 M S:=OM.kept h.mem fun k hk ho=>by
  refine heap_setCell_other w ⟨hb,2,none⟩ k _ (fun e=>?_);have e2:k=hb:=e;subst e2;rcases ho with q|⟨f,hf,q⟩
  ·exact h.ne (Or.inl q)
  ·exact h.ne (B7.own_of h.mem hf q)
 refine⟨⟨hm,h.hB,A3g h.blk,?_,?_,A1c h.nxt,h.ne⟩,⟨⟨rfl,rfl,rfl,by simp[World.setCell],fun k hk hn=>heap_setCell_other w ⟨hb,2,none⟩ k _ (fun e=>hn (Or.inl e))⟩,fun k hk=>Or.inl hk⟩⟩
 ·rw[J4 (by decide)];exact h.ptr
 ·rw[J4 (by decide)];exact h.tn
def D3r (w:World) (B hb b:Nat) (M:A7) (S:C8) (ten nx u:Int) (e:Ending) (w':World):Prop :=
 (∃ i:Nat,i<M.ids.length∧(M.ids.getD i (0,0)).1=u∧e=.returned (.int .i64 (M.ids.getD i (0,0)).2)∧A0 w w') ∨
 ((∀ x∈M.ids,x.1≠u)∧∃ S',e=.returned (.int .i64 nx)∧E7 w' B hb b {M with ids:=M.ids++[(u,nx)]} S' ten (nx+1)∧D7 hb b w S w' S')
theorem E2y (w:World) (hH:E7 w B hb b M S ten nx) (hok:M.Ok) (hn0:0≤nx∧nx≤1000000000) (hl:M.ids.length≤1000000) (u:Int) :
  Calls Tryz.prog 48 #[.pointer (some ⟨hb,0,none⟩),.int .u64 u] w (D3r w B hb b M S ten nx u):=by
 have hM0:=hH.mem.mem hok;have HM:=Hz hM0;have HH:=Hz hH;have q0:=hH.ptr;have c9:=hM0.ids;simp only[Nat.zero_add] at c9;have hQ0:=Hz q0;have hC9:=Hz c9;obtain⟨i0,hi0,hz0,hz1,hz2⟩:=info_parts B6z;have hbl:=OM.lt hH.mem;have hhl:=hH.lt;clear hH
 go_enter Tryz.func48,Tryz.ntmps48
 go_upto_region 2 with (go_at_call 106;refine (E3m w.heap.size u S.I.1 S.I.2 M.ids _ hM0.ok.lenI (hM0.rI.ext ((A0.refl w).alloc_ _)) (by rw[World.cell?,heap_alloc_new];rfl)).mono ?_;rintro e w1 ⟨n,rfl,hn,hq⟩;have HN:=Hz hn;have HX1:Hid (A0 w w1):=((A0.refl w).alloc_ _).trans_ hq;have HBX:Hid (w1.cell? ⟨w.heap.size,0,none⟩=some (.int .u64 u)):=hq.cell_ (by rw[World.cell?,heap_alloc_new];rfl);clear hn hq)
 have h2:=HN.out;clear hM0;rcases h2 with⟨rfl,hall⟩|⟨i,rfl,hil,hiu⟩
 ·have HALL:=Hz hall;have d0:=HX1.out.cell_ hQ0.out;have d9:=HX1.out.cell_ hC9.out;clear q0 c9 hall
  go_upto_region 4 with fail
  refine P4 (fun wD hwD=>?_);have HXD:Hid (A0 w wD):=by rw[hwD];exact HX1.out
  have hBX:wD.cell? ⟨w.heap.size,0,none⟩=some (.int .u64 u):=by rw[hwD];exact HBX.out
  clear hwD;have j1:=HXD.out.cell_ hQ0.out;have j2:=HXD.out.cell_ hC9.out;have j3:=(HH.out.ext HXD.out).nxt;have HHD:=Hz (HH.out.ext HXD.out);have HSD:Hid (D7 hb b w S wD S):=D7.of_ext HXD.out;have j2a:=fun o=>(A0.alloc_ (A0.refl wD) o).cell_ j2
  clear d0 d9;refine wp_region_held_drew (S:=fun W=>W.cell? ⟨hb,0,none⟩=some (.pointer (some ⟨b,0,none⟩))∧W.cell? ⟨hb,2,none⟩=some (.int .i64 nx)∧W.cell? ⟨w.heap.size,0,none⟩=some (.int .u64 u)) (by kernel_rfl) ?_ (fun hH=>?_)
  ·exact⟨j1,j3,hBX⟩
  refine tJ 0 25 rfl ?_
  try simp only[A5]
  refine tJ 1 26 rfl ?_
  try simp only[A5]
  refine tJ 2 27 rfl ?_
  try simp only[A5]
  refine tJ 3 28 rfl ?_
  try simp only[A5]
  refine tJ 4 29 rfl ?_
  try simp only[A5]
  refine tJ 5 30 rfl ?_
  try simp only[A5]
  refine tJ 6 31 rfl ?_
  try simp only[A5]
  refine tJ 7 32 rfl ?_
  try simp only[A5]
  refine tJ 8 33 rfl ?_
  try simp only[A5]
  refine tJ 9 34 rfl ?_
  try simp only[A5]
  refine tJ 11 36 rfl ?_
  try simp only[A5]
  refine tJ 12 37 rfl ?_
  try simp only[A5]
  refine tJ 13 38 rfl ?_
  try simp only[A5]
  refine tJ 14 39 rfl ?_
  try simp only[A5]
  refine tJ 15 40 rfl ?_
  try simp only[A5]
  refine tJ 16 41 rfl ?_
  try simp only[A5]
  refine wpAnyH_ready (rs:=[10,17]) (by kernel_rfl) (by simp) ?_;refine AllReadyH.cons (o:=⟨some 35,_,_,_,_,_⟩) rfl (fun K hK=>?_) (AllReadyH.cons (o:=⟨some 42,_,_,_,_,_⟩) rfl (fun K hK=>?_) AllReadyH.nil)
  ·skip;go_simp;refine hK.out _ _ ?_ (fun hH=>?_)
   ·(try dsimp only);exact⟨A0.cell_ (w:=wD) eX j1,A0.cell_ (w:=wD) eX j3,A0.cell_ (w:=wD) eX hBX⟩
   clear hK K
   try simp only[A5]
   refine wpAnyH_ready (rs:=[17]) (by kernel_rfl) (by simp) ?_;refine AllReadyH.cons (o:=⟨some 42,_,_,_,_,_⟩) rfl (fun K hK=>?_) AllReadyH.nil;go_simp;skip;refine hK.out _ _ ?_ (fun hH=>?_)
   ·(try dsimp only);exact⟨A0.cell_ (w:=wD) eX j1,A0.cell_ (w:=wD) eX j3,A0.cell_ (w:=wD) eX hBX⟩
   clear hK K
   try simp only[A5]
   refine wpAnyH_ready (rs:=[18]) (by kernel_rfl) (by simp) ?_;refine AllReadyH.cons (o:=⟨some 43,_,_,_,_,_⟩) rfl (fun K hK=>?_) AllReadyH.nil;have hHD:=HHD.out.ext (A0.alloc_ (A0.drew_ (A0.refl wD)) (.cells #[.int .u64 u,.int .i64 nx] 140));refine A5b (by rfl) _ _ 80 (by rfl) B 140 i0 (.agg #[.int .u64 0,.int .i64 0]) 2 16 B1a hi0 hz0 hz1 hz2 (by rfl) (by decide) (.slice S.I.1 M.ids.length S.I.2) M.ids.length (G0 M.ids) (by rfl) (hHD.mem.fld ⟨9,140,2,S.I.1,M.ids.length,S.I.2,G0 M.ids⟩ (by simp[F3])).2.1 (some ⟨wD.heap.size,0,none⟩) 1 1 [.int .u64 u,.int .i64 nx] (by rfl) (fun e=>by cases e) (Zk _) (by rfl) (B8b wD.drew _ _) (by intro q hq;simp at hq;rcases hq with rfl|rfl<;>rfl) (by unfold maxLen;omega) (by omega) hHD.hbs ?_;intro a2 c2 v2 hown hgrow hat
   obtain⟨z1,z2,z3,y9,yf⟩:=hHD.pushId (u,nx) a2 c2 hgrow hown hat
   have HZ1:=Hz z1;have HZ2:Hid (D7 hb b w S _ _):=(HSD.out.trans_ (D7.of_ext (A0.alloc_ (A0.drew_ (A0.refl wD)) (.cells #[.int .u64 u,.int .i64 nx] 140)))).trans_ z2;have y0:=z3.cell (p:=⟨hb,0,none⟩) hHD.ne hHD.ptr;have y2:=z3.cell (p:=⟨hb,2,none⟩) hHD.ne hHD.nxt;have hnb:¬HL hb b S w.heap.size:=fun e=>by have:=(HH.out.own e).2;omega
   have hbx2:World.cell? _ ⟨w.heap.size,0,none⟩=some (.int .u64 u):=A0.cell_ (w:=wD) (w':=_) (A0.alloc_ (A0.drew_ (A0.refl wD)) (.cells #[.int .u64 u,.int .i64 nx] 140)) hBX;have yb:=z3.cell (p:=⟨w.heap.size,0,none⟩) (fun e=>hnb (Or.inr e)) hbx2;have x0:=z1.ptr;have x2:=z1.nxt;have xb:=z2.keep.cell (p:=⟨w.heap.size,0,none⟩) hnb hbx2;clear hown hgrow hat z1 z2 z3 hHD hbx2;refine hK.out _ _ ?_ (fun hH=>?_)
   ·(try dsimp only);exact⟨y0,y2,yb⟩
   clear hK K
   try simp only[A5]
   refine tJ 19 44 rfl ?_
   try simp only[A5]
   refine tJ 20 45 rfl ?_
   try simp only[A5]
   refine wpAnyH_ready (rs:=[21]) (by kernel_rfl) (by simp) ?_;refine AllReadyH.cons (o:=⟨none,_,_,_,_,_⟩) rfl (fun K hK=>?_) AllReadyH.nil;go_simp;skip;refine hK.out _ _ ?_ (fun hH=>?_)
   ·(try dsimp only);exact⟨x0,x2,xb⟩
   clear hK K
   try simp only[A5]
   refine wpAnyH_done (by kernel_rfl) ?_ _;clear hH y0 y2 y9 yb yf xb hnb;generalize v2.setCell ⟨b,9,none⟩ (Value.slice a2 (M.ids.length+1) c2)=wE at *
   have hfr:=HZ1.out.frozen 2;have f1:IntKind.i64.wrap (nx+1)=nx+1:=IntWalk.i64_in _ (by omega);obtain⟨n1,n2⟩:=HZ1.out.setNext (nx+1);have m0:=n1.ptr;have m9:=(n1.mem.fld ⟨9,140,2,a2,(M.ids++[(u,nx)]).length,c2,G0 (M.ids++[(u,nx)])⟩ (by simp[F3])).1;simp only[I6.val,List.length_append,Zg] at m9;have mR:F7 _ a2 (G0 (M.ids++[(u,nx)])):=(R4 (n1.mem.fld ⟨9,140,2,a2,(M.ids++[(u,nx)]).length,c2,G0 (M.ids++[(u,nx)])⟩ (by simp[F3])).2.1).1;obtain⟨p0,p1⟩:=A6u (M.ids++[(u,nx)]) M.ids.length (by simp);obtain⟨ib,io,hIa,k0⟩:=mR _ _ p0;rw[hIa] at mR m9;have k1:=mR.at_ p1;rw[←Zj] at k1;simp only[Ze (Zk _),Nat.sub_self,Zf] at k1;have HN1:=Hz n1;have HN2:=Hz (HZ2.out.trans_ n2);have hlz:(M.ids.length:Int)<((M.ids.length+1:Nat):Int):=by omega
   clear n1 n2 mR p0 p1 k0 hIa;generalize hwF:wE.setCell ⟨hb,2,none⟩ (.int .i64 (nx+1))=wF at *
   go_wp2;go_ret;right;exact⟨HALL.out,_,rfl,HN1.out,HN2.out⟩
  ·skip;go_simp;refine hK.out _ _ ?_ (fun hH=>?_)
   ·(try dsimp only);exact⟨A0.cell_ (w:=wD) eX j1,A0.cell_ (w:=wD) eX j3,A0.cell_ (w:=wD) eX hBX⟩
   clear hK K
   try simp only[A5]
   refine wpAnyH_ready (rs:=[10]) (by kernel_rfl) (by simp) ?_;refine AllReadyH.cons (o:=⟨some 35,_,_,_,_,_⟩) rfl (fun K hK=>?_) AllReadyH.nil;go_simp;skip;refine hK.out _ _ ?_ (fun hH=>?_)
   ·(try dsimp only);exact⟨A0.cell_ (w:=wD) eX j1,A0.cell_ (w:=wD) eX j3,A0.cell_ (w:=wD) eX hBX⟩
   clear hK K
   try simp only[A5]
   refine wpAnyH_ready (rs:=[18]) (by kernel_rfl) (by simp) ?_;refine AllReadyH.cons (o:=⟨some 43,_,_,_,_,_⟩) rfl (fun K hK=>?_) AllReadyH.nil;have hHD:=HHD.out.ext (A0.alloc_ (A0.drew_ (A0.refl wD)) (.cells #[.int .u64 u,.int .i64 nx] 140));refine A5b (by rfl) _ _ 80 (by rfl) B 140 i0 (.agg #[.int .u64 0,.int .i64 0]) 2 16 B1a hi0 hz0 hz1 hz2 (by rfl) (by decide) (.slice S.I.1 M.ids.length S.I.2) M.ids.length (G0 M.ids) (by rfl) (hHD.mem.fld ⟨9,140,2,S.I.1,M.ids.length,S.I.2,G0 M.ids⟩ (by simp[F3])).2.1 (some ⟨wD.heap.size,0,none⟩) 1 1 [.int .u64 u,.int .i64 nx] (by rfl) (fun e=>by cases e) (Zk _) (by rfl) (B8b wD.drew _ _) (by intro q hq;simp at hq;rcases hq with rfl|rfl<;>rfl) (by unfold maxLen;omega) (by omega) hHD.hbs ?_;intro a2 c2 v2 hown hgrow hat
   obtain⟨z1,z2,z3,y9,yf⟩:=hHD.pushId (u,nx) a2 c2 hgrow hown hat
   have HZ1:=Hz z1;have HZ2:Hid (D7 hb b w S _ _):=(HSD.out.trans_ (D7.of_ext (A0.alloc_ (A0.drew_ (A0.refl wD)) (.cells #[.int .u64 u,.int .i64 nx] 140)))).trans_ z2;have y0:=z3.cell (p:=⟨hb,0,none⟩) hHD.ne hHD.ptr;have y2:=z3.cell (p:=⟨hb,2,none⟩) hHD.ne hHD.nxt;have hnb:¬HL hb b S w.heap.size:=fun e=>by have:=(HH.out.own e).2;omega
   have hbx2:World.cell? _ ⟨w.heap.size,0,none⟩=some (.int .u64 u):=A0.cell_ (w:=wD) (w':=_) (A0.alloc_ (A0.drew_ (A0.refl wD)) (.cells #[.int .u64 u,.int .i64 nx] 140)) hBX;have yb:=z3.cell (p:=⟨w.heap.size,0,none⟩) (fun e=>hnb (Or.inr e)) hbx2;have x0:=z1.ptr;have x2:=z1.nxt;have xb:=z2.keep.cell (p:=⟨w.heap.size,0,none⟩) hnb hbx2;clear hown hgrow hat z1 z2 z3 hHD hbx2;refine hK.out _ _ ?_ (fun hH=>?_)
   ·(try dsimp only);exact⟨y0,y2,yb⟩
   clear hK K
   try simp only[A5]
   refine tJ 19 44 rfl ?_
   try simp only[A5]
   refine tJ 20 45 rfl ?_
   try simp only[A5]
   refine wpAnyH_ready (rs:=[21]) (by kernel_rfl) (by simp) ?_;refine AllReadyH.cons (o:=⟨none,_,_,_,_,_⟩) rfl (fun K hK=>?_) AllReadyH.nil;go_simp;skip;refine hK.out _ _ ?_ (fun hH=>?_)
   ·(try dsimp only);exact⟨x0,x2,xb⟩
   clear hK K
   try simp only[A5]
   refine wpAnyH_done (by kernel_rfl) ?_ _;clear hH y0 y2 y9 yb yf xb hnb;generalize v2.setCell ⟨b,9,none⟩ (Value.slice a2 (M.ids.length+1) c2)=wE at *
   have hfr:=HZ1.out.frozen 2;have f1:IntKind.i64.wrap (nx+1)=nx+1:=IntWalk.i64_in _ (by omega);obtain⟨n1,n2⟩:=HZ1.out.setNext (nx+1);have m0:=n1.ptr;have m9:=(n1.mem.fld ⟨9,140,2,a2,(M.ids++[(u,nx)]).length,c2,G0 (M.ids++[(u,nx)])⟩ (by simp[F3])).1;simp only[I6.val,List.length_append,Zg] at m9;have mR:F7 _ a2 (G0 (M.ids++[(u,nx)])):=(R4 (n1.mem.fld ⟨9,140,2,a2,(M.ids++[(u,nx)]).length,c2,G0 (M.ids++[(u,nx)])⟩ (by simp[F3])).2.1).1;obtain⟨p0,p1⟩:=A6u (M.ids++[(u,nx)]) M.ids.length (by simp);obtain⟨ib,io,hIa,k0⟩:=mR _ _ p0;rw[hIa] at mR m9;have k1:=mR.at_ p1;rw[←Zj] at k1;simp only[Ze (Zk _),Nat.sub_self,Zf] at k1;have HN1:=Hz n1;have HN2:=Hz (HZ2.out.trans_ n2);have hlz:(M.ids.length:Int)<((M.ids.length+1:Nat):Int):=by omega
   clear n1 n2 mR p0 p1 k0 hIa;generalize hwF:wE.setCell ⟨hb,2,none⟩ (.int .i64 (nx+1))=wF at *
   go_wp2;go_ret;right;exact⟨HALL.out,_,rfl,HN1.out,HN2.out⟩
 ·have d0:=HX1.out.cell_ hQ0.out;have d9:=HX1.out.cell_ hC9.out;obtain⟨p0,p1⟩:=A6u M.ids i hil;have hRs:=HM.out.rI.ext HX1.out;obtain⟨ib,io,hIa,c0⟩:=hRs _ _ p0;rw[hIa] at hRs d9;have c1:=hRs.at_ p1;rw[←Zj] at c1;have hltz:(i:Int)<(M.ids.length:Int):=by omega
  have hgd:M.ids.getD i (0,0)=M.ids[i]:=by rw[Zb,Zc hil];rfl
  rw[←hgd] at c1;have HIU:=Hz hiu;generalize hv:M.ids.getD i (0,0)=v at *
  have HV:=Hz hv;clear q0 c9 hRs p0 p1 hgd c0 hIa hiu hv;go_wp2;go_ret;left;exact⟨i,hil,by rw[HV.out];exact HIU.out,by rw[HV.out];rfl,HX1.out⟩
end
section
variable {B hb b:Nat} {M:A7} {S:C8} {E:Nat→Addr} {ten nx:Int}
def D4b (w:World) (B hb b:Nat) (M:A7) (S:C8) (ten nx u:Int) (e:Ending) (w':World):Prop :=
 (∃ i:Nat,i<M.ids.length∧(M.ids.getD i (0,0)).1=u∧e=.returned (.tuple #[.int .i64 (M.ids.getD i (0,0)).2,.nilIface])∧A0 w w') ∨
 ((∀ x∈M.ids,x.1≠u)∧∃ S',e=.returned (.tuple #[.int .i64 nx,.nilIface])∧E7 w' B hb b {M with ids:=M.ids++[(u,nx)]} S' ten (nx+1)∧D7 hb b w S w' S')
theorem F1g (w:World) (hH:E7 w B hb b M S ten nx) (hI:D6 M nx) (hE:G4 E w) (hn1:nx≤1000000000) (hl:M.ids.length≤1000000) (r:Int) (hr0:-9223372036854775808≤r∧r≤9223372036854775807) (hc:headC M r=0) :
  Calls Tryz.prog 14 #[.pointer (some ⟨hb,0,none⟩),.int .i64 r] w (D4b w B hb b M S ten nx (M.roots.getD r.toNat 0)):=by
 have HH:=Hz hH;have HI:=Hz hI;have HE:=Hz hE;have hnx:=hI.nx1;have hgM:=(L8 hI.chk).1;obtain⟨rn,x,rfl,hrl,hpt,hk,hz,hx,hpl⟩:=B6q hgM hc;have hR:rootB M (rn:Int)=true:=Y2.2 (by omega);have HR:=Hz hR;have hub:0≤M.roots.getD rn 0∧M.roots.getD rn 0≤18446744073709551615:=Y1 (P:=fun x=>0≤x∧x≤18446744073709551615) hI.ok.roots hrl;obtain⟨rb,ro,hRa,hcell⟩:=(hH.mem.mem hI.ok).rR rn _ (K2 M.roots rn hrl);have c7:=(hH.mem.mem hI.ok).roots;simp only[Nat.zero_add] at c7;rw[hRa] at c7;have hltz:(rn:Int)<(M.roots.length:Int):=by omega
 have hC7:=Hz c7;have hQ0:=Hz hH.ptr;have hCE:=Hz hcell;have HMM:=Hz (hH.mem.mem hI.ok);have HGM:=Hz hgM;have HHY:=Hz (⟨hk,hz,hx,hpl⟩:C7 (M.roots.getD rn 0)=0∧M.roots.getD rn 0≠0∧x∈D8 M∧C9 (M.roots.getD rn 0)=(x.a:Int));have HFB:=Hz (A4d (K5 hgM).2.2.1 hrl);rw[Int.toNat_natCast];obtain⟨u,hu⟩:∃ u,u=M.roots.getD rn 0:=⟨_,rfl⟩;rw[←hu] at HHY hCE hub HFB ⊢;clear hH hI hE hR hc hk hz hx hpl hRa hcell c7 hpt hgM hu
 go_enter Tryz.func14,Tryz.ntmps14
 go_upto_region 3 with (go_at_call 40;refine (A2o _ (HH.out.ext ((A0.refl w).alloc_ _)) HI.out.ok w.heap.size (rn:Int) hr0.1 hr0.2 (by rw[World.cell?,heap_alloc_new];rfl)).mono ?_;rintro e w1 ⟨he,hq⟩;rw[HR.out] at he;subst he;have HX1:Hid (A0 w w1):=((A0.refl w).alloc_ _).trans_ hq;clear hq)
 have q1:=HX1.out.cell_ hQ0.out;have q2:=HX1.out.cell_ hC7.out;have q3:=HX1.out.cell_ hCE.out
 go_upto_region 6 with (go_at_call 47;refine (B4a u hub.1 hub.2 _ (HMM.out.ext HX1.out) (HX1.out.cell_ hQ0.out) HGM.out HHY.out.1 HHY.out.2.1 x HHY.out.2.2.1 HHY.out.2.2.2).mono ?_;rintro e w3 ⟨he,hq⟩;(try unfold A1g at he);subst he;have HX3:Hid (A0 w w3):=HX1.out.trans_ hq;clear hq)
 refine P4 (fun wD hwD=>?_);have HXD:Hid (A0 w wD):=by rw[hwD];exact HX3.out.alloc_ _
 have j1:=HXD.out.cell_ hQ0.out;have j2:=HXD.out.cell_ hC7.out;have j3:=HXD.out.cell_ hCE.out;clear hwD
 go_wp2_with (go_at_call 48;refine (E2y _ (HH.out.ext HXD.out) HI.out.ok ⟨by omega,hn1⟩ hl u).mono ?_;rintro e w4 hq;have HQ:=Hz hq;clear hq;rcases HQ.out with⟨i,h1,h2,he,h4⟩|⟨h1,S2,rfl,h3,h4⟩;(generalize hv:(M.ids.getD i (0,0)).2=v at he;have HV:=Hz hv;have H1:=Hz h1;have H2:=Hz h2;have H4:=Hz h4;clear hv h1 h2 h4;subst he))
 ·go_wp2
  go_ret2
  left;exact⟨i,H1.out,H2.out,by rw[HV.out];rfl,HXD.out.trans_ H4.out⟩
 ·go_wp2
  go_ret2
  right;exact⟨h1,S2,rfl,h3,(D7.of_ext HXD.out).trans_ h4⟩
end
structure AI (M:A7) (nx old:Int) (R k:Nat):Prop where
 inv:D6 M nx
 old:M.old=old
 roots:M.roots.length=R
 weak:M.weak.length≤k
 ids:M.ids.length≤k
 nx:nx≤(k:Int)+1
theorem AI.same {M N:A7} {nx old:Int} {R k:Nat} (h:AI M nx old R k) (hi:D6 N nx) (hs:Q8 M N):AI N nx old R (k+1) :=
 ⟨hi,hs.old.trans h.old,hs.roots.trans h.roots,by rw[hs.weak];have:=h.weak;omega,by have:=hs.ids;have:=h.ids;omega,by have:=h.nx;omega⟩
theorem AI.self {M:A7} {nx old:Int} {R k:Nat} (h:AI M nx old R k):AI M nx old R (k+1):=h.same h.inv (Q8.refl M)
section
variable {B hb b:Nat} {M:A7} {S:C8} {E:Nat→Addr} {ten nx old:Int} {R k:Nat} {w:World}
theorem E3u (v:Int) (st:List Int):D0 st (P6 v)=true:=by
 unfold D0;have:=(B0o v).2.2;have hk:C7 (P6 v)=1:=this;rw[if_neg (by omega),if_pos hk]
theorem C7d (ht:0≤ten∧ten≤15) (h:D6 M nx) (v:Int) (r:Nat):D6 (P5 (U7 M ten v) (Y9 M ten v) r (A0g M ten v)) nx∧Q8 M (P5 (U7 M ten v) (Y9 M ten v) r (A0g M ten v)):=by
 obtain⟨n1,n2⟩:=C9g (v:=v) ht h;unfold P5
 split
 ·rename_i hc
  cases hs:U2 v with
  | true =>
   have e1:U7 M ten v=M:=by unfold U7;rw[hs];rfl
   have e2:A0g M ten v=P6 v:=by unfold A0g;rw[hs];rfl
   rw[e1,e2];obtain⟨lN,lO,hg⟩:=A4r h.chk;exact A7e h hg r (P6 v) ⟨(B0o v).1,(B0o v).2.1⟩ (E3u v _)
  | false =>
   have hc2:J0 M ten 1=0:=by unfold Y9 at hc;rw[hs] at hc;simpa using hc
   obtain⟨i1,i2,i3⟩:=A4z (sz:=1) ht h 1 (by omega) (by omega);obtain⟨a,ha,hN⟩:=i3 hc2;obtain⟨lN,lO,hg,hm⟩:=hN.good;have hr:D2 (B3 (A6 (J1 M ten 1 1).W a))=true:=by rw[hN.hd];decide
   have hsz:A9 (J1 M ten 1 1).W a=1:=by unfold A9;rw[hN.hd];decide
   have e1:U7 M ten v=B9r (J1 M ten 1 1) a v:=by unfold U7;rw[hs];simp only[Za,if_false,if_pos hc2];rw[ha];rfl
   have e2:A0g M ten v=D3 (a:Int):=by unfold A0g;rw[hs];simp only[Za,if_false,if_pos hc2];rw[ha]
   obtain⟨k1,k2,k3⟩:=C2h i1 hg hm hr ((J1 M ten 1 1).W.set (a+1) (IntKind.u64.wrap v)) (by simp) (fun i hi=>by rw[hsz] at hi;rw[A2r _ _ _ _ (by omega)]) (fun x hx=>by
    rcases List.mem_or_eq_of_mem_set hx with q|q
    ·exact i1.ok.W x q
    ·rw[q,IntKind.wrap_u64];omega)
   rw[e1,e2];obtain⟨m1,m2⟩:=A7e k1 k3 r (D3 (a:Int)) ⟨(A5v _).1,(A5v _).2.1⟩ (B9k k3 hm);exact⟨m1,(i2.trans k2).trans m2⟩
 ·exact⟨n1,n2⟩
theorem D8e (h:D6 M nx) (v:Int) (r:Nat):D6 (P5 M (A5y v) r (A7w v)) nx∧Q8 M (P5 M (A5y v) r (A7w v)):=by
 unfold P5 A5y A7w;by_cases hv:0≤v∧v≤2
 ·rw[if_pos hv,if_pos hv,if_pos rfl];obtain⟨lN,lO,hg⟩:=A4r h.chk;refine A7e h hg r (P3 v) ⟨(B1p v).1,(B1p v).2.1⟩ ?_;have hk:C7 (P3 v)=2:=(B1p v).2.2;unfold D0;rw[if_neg (by omega),if_neg (by omega),if_pos hk];exact decide_eq_true (by unfold P3;omega)
 ·rw[if_neg hv,if_neg hv,if_neg (by decide)];exact⟨h,Q8.refl M⟩
theorem F7g (ht:0≤ten∧ten≤15) (h:D6 M nx) (s:ByteArray) (hs:s.size≤2000) (r:Nat):D6 (P5 (Z6 M ten s) (J0 M ten (K1 s)) r (A1n M ten s)) nx∧Q8 M (P5 (Z6 M ten s) (J0 M ten (K1 s)) r (A1n M ten s)):=by
 obtain⟨n1,n2,n3⟩:=D2f ht h s hs;unfold P5
 split
 ·rename_i hc;obtain⟨lN,lO,hg,hf⟩:=n3 hc;have e2:A1n M ten s=D3 (U1 M ten (K1 s)):=by unfold A1n;rw[if_pos hc]
  obtain⟨m1,m2⟩:=A7e n1 hg r (A1n M ten s) (by rw[e2];exact⟨(A5v _).1,(A5v _).2.1⟩) hf;exact⟨m1,n2.trans m2⟩
 ·exact⟨n1,n2⟩
theorem E5r (ht:0≤ten∧ten≤15) (h:D6 M nx) (kind:Int) (sz:Nat) (hk:0≤kind∧kind≤255) (hz:sz≤4096) (r:Nat):D6 (P5 (J1 M ten kind sz) (J0 M ten sz) r (D3 (U1 M ten sz))) nx∧Q8 M (P5 (J1 M ten kind sz) (J0 M ten sz) r (D3 (U1 M ten sz))):=by
 unfold P5
 split
 ·rename_i hc;exact E5t ht h kind sz hk hz hc r
 ·obtain⟨i1,i2,-⟩:=A4z ht h kind sz hk hz;exact⟨i1,i2⟩
theorem E1j (h:D6 M nx) {r f s:Int} (hc:fieldC M r f s=0) (t:Nat):D6 (Z1 M t (A6 M.W (A2e M r f))) nx∧Q8 M (Z1 M t (A6 M.W (A2e M r f))):=by
 have hgM:=(L8 h.chk).1;obtain⟨rn,sn,fn,x,h1,h2,h3,hrl,hsl,hx,hpl,hraw,hfn,hP⟩:=B6j hgM hc;obtain⟨lN,lO,hg⟩:=A4r h.chk;obtain⟨hs,hob,hro,hwk,hfo,hid⟩:=K5 hgM;rw[hP];refine A7e h hg t _ (O6 h.ok _) ?_;rw[←hg.starts];exact B1t hfo hx hraw fn hfn
variable (hO:E7 w B hb b M S ten nx) (hA:AI M nx old R k) (hE:G4 E w) (ht:0≤ten∧ten≤15) (hB:GB B)
include hO hA hE ht hB
end
section
variable {I:B4} {M:A7} {D:Nat→Prop} {f:Nat→Nat} {ten nx:Int}
theorem K7.rawset (h:K7 I M D f) (hI:D6 M nx) {a:Nat} (ha:D a) (hr:D2 (B3 (A6 I.V a))=true) (V W:List Int) (hV:V.length=I.V.length)
  (oV:∀ i,¬(a+1≤i∧i<a+1+A9 I.V a)→A6 V i=A6 I.V i) (hW:W.length=M.W.length) (oW:∀ i,¬(f a+1≤i∧i<f a+1+A9 I.V a)→A6 W i=A6 M.W i)
  (hk:∀ k,k<A9 I.V a→A6 W (f a+1+k)=A6 V (a+1+k)):K7 {I with V:=V} {M with W:=W} D f:=by
 obtain⟨lN,lO,hG⟩:=A4r hI.chk;have hall:(D8 M).map (·.a)=lN++lO:=by
  rw[hG.all,List.map_map];exact (List.map_congr_left fun x _=>rfl).trans (List.map_id _)
 have hob:∀ b,D b→f b∈lN++lO:=fun b hb=>by rw[←hall];exact h.obj b hb
 have hsz:∀ b,D b→A9 M.W (f b)=A9 I.V b:=fun b hb=>by unfold A9;rw[h.morph.size b hb]
 have hG2:=hG.raw_ (hob a ha) (by rw[h.morph.kind a ha];exact hr) W hW (fun i hi=>oW i (by rw[hsz a ha] at hi;exact hi));have hall2:(D8 {M with W:=W}).map (·.a)=lN++lO:=by
  rw[hG2.all,List.map_map];exact (List.map_congr_left fun x _=>rfl).trans (List.map_id _)
 have apI:∀ b,D b→b≠a→∀ i,b≤i→i<b+1+A9 I.V b→A6 V i=A6 I.V i:=fun b hb hn i i1 i2=>oV i (by
  rcases Nat.lt_or_gt_of_ne hn with q|q
  ·have:=h.apart b a hb ha q;omega
  ·have:=h.apart a b ha hb q;omega)
 have apM:∀ b,D b→b≠a→∀ i,f b≤i→i<f b+1+A9 I.V b→A6 W i=A6 M.W i:=fun b hb hn i i1 i2=>oW i (by
  have hn2:f b≠f a:=fun e=>hn (h.morph.inj b a hb ha e)
  rcases hG.apart (hob b hb) (hob a ha) hn2 with q|q
  ·rw[hsz b hb] at q;omega
  ·rw[hsz a ha] at q;omega)
 have hdI:∀ b,D b→A6 V b=A6 I.V b:=fun b hb=>by
  by_cases e:b=a
  ·subst e;exact oV b (by omega)
  ·exact apI b hb e b (Zk _) (by omega)
 have hdM:∀ b,D b→A6 W (f b)=A6 M.W (f b):=fun b hb=>by
  by_cases e:b=a
  ·subst e;exact oW (f b) (by omega)
  ·exact apM b hb e (f b) (Zk _) (by omega)
 have hszI:∀ b,D b→A9 V b=A9 I.V b:=fun b hb=>by unfold A9;rw[hdI b hb]
 refine⟨⟨h.morph.inj,fun b hb=>?_,fun b hb=>?_,fun b hb hq i hi=>?_,fun b hb hq i hi=>?_⟩,fun b hb=>?_,fun b c hb hc hbc=>?_,fun b hb=>?_,h.lenR,h.roots,h.lenK,h.weak,h.ids1,h.ids2,fun i hi=>?_,fun u s hu=>?_,h.nodes⟩
 ·show B3 (A6 W (f b))=B3 (A6 V b);rw[hdM b hb,hdI b hb];exact h.morph.kind b hb
 ·show B5 (A6 W (f b))=B5 (A6 V b);rw[hdM b hb,hdI b hb];exact h.morph.size b hb
 ·have hq2:D2 (B3 (A6 I.V b))=false:=by rw[←hdI b hb];exact hq
  have hi2:i<A9 I.V b:=by rw[←hszI b hb];exact hi
  have e:b≠a:=fun e=>by subst e;rw[hr] at hq2;cases hq2
  show Q6 f D (A6 V (b+1+i)) (A6 W (f b+1+i));rw[apM b hb e _ (by omega) (by omega),apI b hb e _ (by omega) (by omega)];exact h.morph.fld b hb hq2 i hi2
 ·have hq2:D2 (B3 (A6 I.V b))=true:=by rw[←hdI b hb];exact hq
  have hi2:i<A9 I.V b:=by rw[←hszI b hb];exact hi
  show A6 W (f b+1+i)=A6 V (b+1+i);by_cases e:b=a
  ·subst e;exact hk i hi2
  ·rw[apM b hb e _ (by omega) (by omega),apI b hb e _ (by omega) (by omega)];exact h.morph.raw b hb hq2 i hi2
 ·show b+1+A9 V b≤V.length;rw[hszI b hb,hV];exact h.dom b hb
 ·show b+1+A9 V b≤c;rw[hszI b hb];exact h.apart b c hb hc hbc
 ·rw[hall2];exact hob b hb
 ·show _<(V.length:Int);rw[hV];exact h.wkV i hi
 ·show _<(V.length:Int);rw[hV];exact h.idV u s hu
theorem Holds.newraw (ht:0≤ten∧ten≤15) (h:Holds I M) (hI:D6 M nx) (kind:Int) (sz:Nat) (us:List Int) (hu:us.length=sz) (hk:0≤kind∧kind≤255) (hr:D2 kind=true) (hz:sz≤4096) (hc:J0 M ten sz=0)
  {p:Nat} (hp:U1 M ten sz=(p:Int)) (W:List Int) (hW:W.length=(J1 M ten kind sz).W.length) (oW:∀ i,¬(p+1≤i∧i<p+1+sz)→A6 W i=A6 (J1 M ten kind sz).W i) (hfl:∀ k,k<sz→A6 W (p+1+k)=us.getD k 0) :
  ∃ D f,K7 (I.new kind us) {J1 M ten kind sz with W:=W} (B0q I D) f∧p=f I.V.length:=by
 obtain⟨D,f,hR,e⟩:=h.obj ht hI kind sz hk hz hc;have hI2:=(A4z ht hI kind sz hk hz).1;obtain rfl:p=f I.V.length:=by rw[hp] at e;omega
 have hl:(List.replicate sz (L0 kind)).length=sz:=by simp
 have hd:=A3a I kind (List.replicate sz (L0 kind));rw[hl] at hd;obtain⟨d1,d2,d3,d4,d5⟩:=A1t kind 0 0 (sz:Int) hk (by omega) (by omega) ⟨by omega,by omega⟩;have hs:A9 (I.new kind (List.replicate sz (L0 kind))).V I.V.length=sz:=by unfold A9;rw[hd,d5];omega
 have hd2:=A3a I kind us;rw[hu] at hd2;refine⟨D,f,hR.rawset hI2 (a:=I.V.length) (Or.inr rfl) (by rw[hd,d2];exact hr) (I.new kind us).V W ?_ (fun i hi=>?_) hW (fun i hi=>oW i (by rw[hs] at hi;exact hi)) (fun k hk2=>?_),rfl⟩
 ·show (I.V++_::us).length=(I.V++_::List.replicate sz (L0 kind)).length;simp[hu]
 ·rw[hs] at hi;by_cases q:i<I.V.length
  ·rw[A8m I kind us q,A8m I kind _ q]
  ·by_cases q2:i=I.V.length
   ·subst q2;rw[hd2,hd]
   ·have q3:i=I.V.length+1+(i-I.V.length-1):=by omega
    rw[q3,A6j,A6j];rw[Zb,Zb,Zd (by omega),Zd (by simp;omega)]
 ·rw[hs] at hk2;rw[hfl k hk2,A6j]
theorem Holds.obj_no (ht:0≤ten∧ten≤15) (h:Holds I M) (hI:D6 M nx) (kind:Int) (sz:Nat) (hc:J0 M ten sz≠0):Holds I (J1 M ten kind sz):=by
 unfold J1;rw[if_neg hc]
 split
 ·exact h.mid ht hI sz
 ·unfold T6
  split
  ·exact h.minor ht hI
  ·exact h
theorem D0o (v:Int):B6 (P6 v)<0:=by
 have hk:C7 (P6 v)=1:=(B0o v).2.2;unfold B6;rw[if_neg (fun q=>by omega)];decide
theorem D0n {v:Int}:B6 (P3 v)<0:=by
 have hk:C7 (P3 v)=2:=(B1p v).2.2;unfold B6;rw[if_neg (fun q=>by omega)];decide
def B4.int (I:B4) (r:Nat) (v:Int):B4:=if U2 v then I.setR r (P6 v) else (I.new 1 [IntKind.u64.wrap v]).setR r (D3 (I.V.length:Int))
theorem Holds.int (ht:0≤ten∧ten≤15) (h:Holds I M) (hI:D6 M nx) (v:Int) (r:Nat) (hl:I.V.length≤1000000000) (hc:Y9 M ten v=0):Holds (I.int r v) (P5 (U7 M ten v) (Y9 M ten v) r (A0g M ten v)):=by
 unfold P5;rw[if_pos hc];unfold B4.int
 cases hs:U2 v with
 | true =>
  have e1:U7 M ten v=M:=by unfold U7;rw[hs];rfl
  have e2:A0g M ten v=P6 v:=by unfold A0g;rw[hs];rfl
  rw[e1,e2,if_pos rfl];exact h.plain r (D0o v)
 | false =>
  rw[if_neg (by simp)];have hc2:J0 M ten 1=0:=by unfold Y9 at hc;rw[hs] at hc;simpa using hc
  obtain⟨i1,i2,i3⟩:=A4z (sz:=1) ht hI 1 (by omega) (by omega);obtain⟨a,ha,hN⟩:=i3 hc2;have hlen:=hN.len;obtain⟨D,f,hR,hp⟩:=h.newraw ht hI 1 1 [IntKind.u64.wrap v] rfl (by omega) (by decide) (by omega) hc2 ha ((J1 M ten 1 1).W.set (a+1) (IntKind.u64.wrap v)) (by simp) (fun i hi=>A2r _ _ _ _ (by omega)) (fun k hk=>by
   obtain rfl:k=0:=by omega
   exact A6q _ _ _ (by omega))
  have e1:U7 M ten v={J1 M ten 1 1 with W:=(J1 M ten 1 1).W.set (a+1) (IntKind.u64.wrap v)}:=by unfold U7;rw[hs];simp only[Za,if_false,if_pos hc2];rw[ha];rfl
  have e2:A0g M ten v=D3 (a:Int):=by unfold A0g;rw[hs];simp only[Za,if_false,if_pos hc2];rw[ha]
  have hg:=(L8 (C7d ht hI v r).1.chk).1;rw[e1,e2];have hle:a≤1000000000:=by have:=A3u (K5 (L8 i1.chk).1).1;omega
  have hco:=B9z (f:=f) (D:=B0q I D) (a:=I.V.length) (Or.inr rfl) hl (by omega);rw[←hp] at hco;exact⟨_,f,hR.setR r hco⟩
theorem Holds.int_no (ht:0≤ten∧ten≤15) (h:Holds I M) (hI:D6 M nx) (v:Int) (r:Nat) (hc:Y9 M ten v≠0):Holds I (P5 (U7 M ten v) (Y9 M ten v) r (A0g M ten v))∧U2 v=false∧J0 M ten 1≠0:=by
 have hs:U2 v=false:=by
  cases hs:U2 v with
  | false=>rfl
  | true=>exact absurd (by unfold Y9;rw[hs];rfl) hc
 have hc2:J0 M ten 1≠0:=by unfold Y9 at hc;rw[hs] at hc;simpa using hc
 unfold P5;rw[if_neg hc];have e1:U7 M ten v=J1 M ten 1 1:=by unfold U7;rw[hs];simp only[Za,if_false,if_neg hc2]
 rw[e1];exact⟨h.obj_no ht hI 1 1 hc2,hs,hc2⟩
def B4.text (I:B4) (r:Nat) (s:ByteArray):B4:=(I.new 2 ((s.size:Int)::T9 s)).setR r (D3 (I.V.length:Int))
theorem Holds.text (ht:0≤ten∧ten≤15) (h:Holds I M) (hI:D6 M nx) (s:ByteArray) (hs:s.size≤2000) (r:Nat) (hl:I.V.length≤1000000000) (hc:J0 M ten (K1 s)=0):Holds (I.text r s) (P5 (Z6 M ten s) (J0 M ten (K1 s)) r (A1n M ten s)):=by
 unfold P5;rw[if_pos hc];have hn:K1 s=1+(s.size+7)/8:=rfl;have hll:=A9u s;obtain⟨i1,i2,i3⟩:=A4z ht hI 2 (K1 s) (by omega) (by omega);obtain⟨a,ha,hN⟩:=i3 hc;have hlen:=hN.len;obtain⟨s1,s2⟩:=D2c (J1 M ten 2 (K1 s)).W a s hlen;obtain⟨D,f,hR,hp⟩:=h.newraw ht hI 2 (K1 s) ((s.size:Int)::T9 s) (by simp;omega) (by omega) (by decide) (by omega) hc ha (A6o (J1 M ten 2 (K1 s)).W a s) s1 s2 (fun k hk=>by
  unfold A6o;rw[B1c _ _ _ _ (by simp;omega)];by_cases q:k=0
  ·subst q;rw[if_neg (by omega)];exact A6q _ _ _ (by omega)
  ·rw[if_pos (by omega)];obtain⟨j,rfl⟩:∃ j,k=j+1:=⟨k-1,by omega⟩;rw[show a+1+(j+1)-(a+1+1)=j by omega];rfl)
 have e1:Z6 M ten s={J1 M ten 2 (K1 s) with W:=A6o (J1 M ten 2 (K1 s)).W a s}:=by unfold Z6;rw[if_pos hc,ha];rfl
 have e2:A1n M ten s=D3 (a:Int):=by unfold A1n;rw[if_pos hc,ha]
 rw[e1,e2];have hle:a≤1000000000:=by have:=A3u (K5 (L8 i1.chk).1).1;omega
 have hco:=B9z (f:=f) (D:=B0q I D) (a:=I.V.length) (Or.inr rfl) hl (by omega);rw[←hp] at hco;exact⟨_,f,hR.setR r hco⟩
theorem Holds.text_no (ht:0≤ten∧ten≤15) (h:Holds I M) (hI:D6 M nx) (s:ByteArray) (r:Nat) (hc:J0 M ten (K1 s)≠0):Holds I (P5 (Z6 M ten s) (J0 M ten (K1 s)) r (A1n M ten s)):=by
 unfold P5 Z6;rw[if_neg hc,if_neg hc];exact h.obj_no ht hI 2 (K1 s) hc
end
theorem A3v {nm:ByteArray} {l:List UInt8} (h:nm≠⟨l.toArray⟩):(nm.toList==l)=false:=by
 rw[ByteArray.toList_eq,beq_eq_false_iff_ne];intro e;obtain⟨⟨m⟩⟩:=nm;exact h (by rw[←e])
def F0 (a:Int):Prop:=-9223372036854775808≤a∧a≤9223372036854775807
end Go.Proofs.YtelhoppfidibiaaGreatDoor
