/- The document's model of a heap whose roots are all none: NewModel, Reach, Show. -/
import Derived.Test.YtelhoppfidibiaaGreatDoorJXa35
set_option linter.unusedSimpArgs false
set_option linter.unusedVariables false
set_option maxHeartbeats 8000000
set_option maxRecDepth 100000
namespace Go.Proofs.YtelhoppfidibiaaGreatDoor
open Go.RowKit
open Int renaming toNat_natCast→Za
open List renaming getD_eq_getElem?_getD→Zb,getElem?_eq_getElem→Zc,mem_append→Zd,mem_map→Ze,mem_singleton→Zf
open Go.Proofs.Tryz renaming prog→Zg
open World renaming ownsRow→Zh,setCell_alloc_past→Zi
theorem B6x:(Zg.info? 52).map (fun i=>(i.zero,i.size,i.bytes))=some (some (.agg #[.int .i64 0,.int .i64 0,.pointer none]),3,24):=by kernel_rfl
theorem B8p:Zg.underlying 53=some (.slice 52):=by kernel_rfl
theorem B7h (z:Array Value) (n j:Nat) (h:j<n):(madeCells z n)[j]?=some (z[j%z.size]!):=by
 simp[madeCells,h]
structure F9h (w:World) (mb n G:Nat):Prop where
 rt:w.cell? ⟨mb,0,none⟩=some (.slice (some ⟨G,0,none⟩) n n)
 c0:∀ i,i<n→w.cell? ⟨G,i*3,none⟩=some (.int .i64 0)
 c1:∀ i,i<n→w.cell? ⟨G,i*3+1,none⟩=some (.int .i64 0)
 c2:∀ i,i<n→w.cell? ⟨G,i*3+2,none⟩=some (.pointer none)
def S9 (u:Int):Int:=if 0≤B6 u then 4 else if u%4=1 then 3 else u/4
def A1b (u:Int):Int:=if 0≤B6 u then 0 else if u%4=1 then A2l u else 0
def O7 (pl:Nat→Nat) (u:Int):Option Addr:=if 0≤B6 u then some ⟨pl (B6 u).toNat,0,none⟩ else none
structure A5r (w:World) (b o:Nat) (pl:Nat→Nat) (u:Int):Prop where
 k:w.cell? ⟨b,o,none⟩=some (.int .i64 (S9 u))
 n:w.cell? ⟨b,o+1,none⟩=some (.int .i64 (A1b u))
 p:w.cell? ⟨b,o+2,none⟩=some (.pointer (O7 pl u))
structure Q7 where
 pl:Nat→Nat
 fl:Nat→Nat
 mb:Nat
 G:Nat
 wv:Value
def A2f (X:Q7) (V:List Int) (a:Nat):Value:=if B3 (A6 V a)<8 then .slice none 0 0 else .slice (some ⟨X.fl a,0,none⟩) (A9 V a) (A9 V a)
structure A3f (w:World) (V:List Int) (X:Q7) (a:Nat) (sr:Int):Prop where
 blk:∃ cur t,w.heap[X.pl a]?=some (.cells cur t (0,0))
 kind:w.cell? ⟨X.pl a,0,none⟩=some (.int .i64 (B3 (A6 V a)))
 flds:w.cell? ⟨X.pl a,1,none⟩=some (A2f X V a)
 num:w.cell? ⟨X.pl a,2,none⟩=some (.int .i64 (if B3 (A6 V a)=1 then Z5 V a else 0))
 str:w.cell? ⟨X.pl a,3,none⟩=some (.string (if B3 (A6 V a)=2 then V0 V a else ⟨#[]⟩))
 ser:w.cell? ⟨X.pl a,4,none⟩=some (.int .i64 sr)
 fblk:8≤B3 (A6 V a)→∃ cur t,w.heap[X.fl a]?=some (.cells cur t (0,0))
 fld:8≤B3 (A6 V a)→∀ k,k<A9 V a→A5r w (X.fl a) (k*3) X.pl (A6 V (a+1+k))
def A5p (I:B4) (a:Nat):Int:=(A0s I (a:Int)).getD 0
def wkV (X:Q7) (I:B4):List Value:=I.weak.map fun u=>.pointer (some ⟨X.pl (B6 u).toNat,0,none⟩)
structure D4e (I:B4) (X:Q7) (R:Nat→Nat):Prop where
 m:R X.mb=0
 g:R X.G=1
 w:∀ k,X.wv.ownBlock=some k→R k=2
 p:∀ a∈I.P,R (X.pl a)=2*a+3
 f:∀ a∈I.P,8≤B3 (A6 I.V a)→R (X.fl a)=2*a+4
structure E9 (w:World) (B:Nat) (I:B4) (nx:Int) (X:Q7):Prop where
 mblk:∃ cur t,w.heap[X.mb]?=some (.cells cur t (0,0))
 roots:w.cell? ⟨X.mb,0,none⟩=some (.slice (some ⟨X.G,0,none⟩) I.roots.length I.roots.length)
 weak:w.cell? ⟨X.mb,1,none⟩=some X.wv
 next:w.cell? ⟨X.mb,2,none⟩=some (.int .i64 (nx-1))
 gblk:∃ cur t,w.heap[X.G]?=some (.cells cur t (0,0))
 root:∀ i,i<I.roots.length→A5r w X.G (i*3) X.pl (I.roots.getD i 0)
 wk:I9 w B 49 X.wv (wkV X I)
 node:∀ a∈I.P,A3f w I.V X a (A5p I a)
 low:B≤X.mb∧B≤X.G∧∀ a∈I.P,B≤X.pl a∧(8≤B3 (A6 I.V a)→B≤X.fl a)
 tags:∃ R,D4e I X R
def ML (I:B4) (X:Q7) (k:Nat):Prop:=k=X.mb∨k=X.G∨X.wv.ownBlock=some k∨∃ a∈I.P,k=X.pl a∨(8≤B3 (A6 I.V a)∧k=X.fl a)
theorem A6f {w:World} {b:Nat} (h:∃ cur t,w.heap[b]?=some (.cells cur t (0,0))):b<w.heap.size:=by
 obtain⟨cur,t,hc⟩:=h;exact (Array.getElem?_eq_some_iff.1 hc).1
theorem A2h {w:World} {b:Nat} (h:∃ cur t,w.heap[b]?=some (.cells cur t (0,0))) (j:Nat):w.frozen? ⟨b,j,none⟩=false:=by
 obtain⟨cur,t,hc⟩:=h;simp[World.frozen?,hc]
section
variable {w w':World} {b o B:Nat} {pl:Nat→Nat} {u nx sr:Int} {L:Nat→Prop} {V:List Int} {X:Q7} {a:Nat} {I:B4}
theorem A5r.keep (h:A5r w b o pl u) (k:A8 L w w') (hb:¬L b):A5r w' b o pl u :=
 ⟨k.cell (p:=⟨b,o,none⟩) hb h.k,k.cell (p:=⟨b,o+1,none⟩) hb h.n,k.cell (p:=⟨b,o+2,none⟩) hb h.p⟩
theorem A0q (k:A8 L w w') (hb:¬L b) (h:∃ cur t,w.heap[b]?=some (.cells cur t (0,0))):∃ cur t,w'.heap[b]?=some (.cells cur t (0,0)):=by
 rw[k.block b (A6f h) hb];exact h
theorem A3f.keep (h:A3f w V X a sr) (k:A8 L w w') (h1:¬L (X.pl a)) (h2:8≤B3 (A6 V a)→¬L (X.fl a)):A3f w' V X a sr :=
 ⟨A0q k h1 h.blk,k.cell (p:=⟨X.pl a,0,none⟩) h1 h.kind,k.cell (p:=⟨X.pl a,1,none⟩) h1 h.flds,k.cell (p:=⟨X.pl a,2,none⟩) h1 h.num,k.cell (p:=⟨X.pl a,3,none⟩) h1 h.str,k.cell (p:=⟨X.pl a,4,none⟩) h1 h.ser,
  fun q=>A0q k (h2 q) (h.fblk q),fun q j hj=>(h.fld q j hj).keep k (h2 q)⟩
theorem E9.keep (h:E9 w B I nx X) (k:A8 L w w') (hL:∀ i,L i→¬ML I X i):E9 w' B I nx X:=by
 have m1:¬L X.mb:=fun q=>hL _ q (Or.inl rfl)
 have m2:¬L X.G:=fun q=>hL _ q (Or.inr (Or.inl rfl))
 have m3:∀ g,X.wv.ownBlock=some g→¬L g:=fun g hg q=>hL _ q (Or.inr (Or.inr (Or.inl hg)))
 have m4:∀ a∈I.P,¬L (X.pl a):=fun a ha q=>hL _ q (Or.inr (Or.inr (Or.inr ⟨a,ha,Or.inl rfl⟩)))
 have m5:∀ a∈I.P,8≤B3 (A6 I.V a)→¬L (X.fl a):=fun a ha h8 q=>hL _ q (Or.inr (Or.inr (Or.inr ⟨a,ha,Or.inr ⟨h8,rfl⟩⟩)))
 exact⟨A0q k m1 h.mblk,k.cell (p:=⟨X.mb,0,none⟩) m1 h.roots,k.cell (p:=⟨X.mb,1,none⟩) m1 h.weak,k.cell (p:=⟨X.mb,2,none⟩) m1 h.next,A0q k m2 h.gblk,fun i hi=>(h.root i hi).keep k m2,h.wk.keep k m3,fun a ha=>(h.node a ha).keep k (m4 a ha) (m5 a ha),h.low,h.tags⟩
theorem E9.ext (h:E9 w B I nx X) (k:A0 w w'):E9 w' B I nx X:=h.keep (L:=fun _=>False) (A8.of_ext k) (fun i q=>q.elim)
theorem E9.own (h:E9 w B I nx X) {k:Nat} (hk:ML I X k):B≤k∧k<w.heap.size:=by
 rcases hk with rfl|rfl|hk|⟨a,ha,rfl|⟨h8,rfl⟩⟩
 ·exact⟨h.low.1,A6f h.mblk⟩
 ·exact⟨h.low.2.1,A6f h.gblk⟩
 ·exact h.wk.lt hk
 ·exact⟨(h.low.2.2 a ha).1,A6f (h.node a ha).blk⟩
 ·exact⟨(h.low.2.2 a ha).2 h8,A6f ((h.node a ha).fblk h8)⟩
theorem E9.inj (h:E9 w B I nx X) {a c:Nat} (ha:a∈I.P) (hc:c∈I.P) (e:X.pl a=X.pl c):a=c:=by
 obtain⟨R,t⟩:=h.tags;have h1:=t.p a ha;have h2:=t.p c hc;rw[e] at h1;omega
end
def A7b (pl:Nat→Nat) (l:List Ob):List Value:=l.map fun o=>.pointer (some ⟨pl o.a,0,none⟩)
theorem B2h (pl:Nat→Nat) (l:List Ob) (k:Nat) (h:k<l.length):(A7b pl l)[k]?=some (.pointer (some ⟨pl l[k].a,0,none⟩)):=by simp[A7b,h]
theorem E9t (pl:Nat→Nat) (l:List Ob) (o:Ob):A7b pl (l++[o])=A7b pl l++[.pointer (some ⟨pl o.a,0,none⟩)]:=by simp[A7b]
structure U3 (I:B4) (l:List Ob):Prop where
 ob:∀ o∈l,o=D4 I.V o.a∧o.a∈I.P
 nodup:(l.map (·.a)).Nodup
theorem U3.nil (I:B4):U3 I []:=⟨fun o h=>by simp at h,by simp⟩
theorem U3.len {I:B4} (h:D5 I) {l:List Ob} (g:U3 I l):l.length≤I.V.length:=by
 have:=B2a (l.map (·.a)) (List.range I.V.length) g.nodup fun a ha=>by
  obtain⟨o,ho,rfl⟩:=Ze.1 ha;exact List.mem_range.2 (by have:=h.dom _ (g.ob o ho).2;omega)
 simpa using this
theorem U3.come {I:B4} (h:D5 I) (hl:I.V.length≤1000000000) {l:List Ob} (g:U3 I l) {u:Int} (hu:P2 I.P u):U3 I (T5 I.V l u):=by
 unfold T5
 split
 ·rename_i hc;obtain⟨a,ha⟩:∃ a:Nat,B6 u=(a:Int):=⟨(B6 u).toNat,by omega⟩;have hm:=(P2.pts h hl hu ha).1;rw[ha,Za];refine⟨fun o ho=>?_,?_⟩
  ·rcases Zd.1 ho with q|q
   ·exact g.ob o q
   ·rw[Zf.1 q];exact⟨rfl,hm⟩
  ·rw[List.map_append,List.nodup_append];refine⟨g.nodup,by simp,fun x hx y hy e=>?_⟩;simp only[List.map_cons,List.map_nil,Zf] at hy;have hin:F8 (G9 l) (B6 u)=true:=by
    rw[ha];obtain⟨o,ho,rfl⟩:=Ze.1 hx;refine List.contains_iff_mem.2 (Ze.2 ⟨o,ho,?_⟩);rw[e,hy];rfl
   rw[hin] at hc;exact absurd hc.2 (by simp)
 ·exact g
theorem C4o (V:List Int) (out:List Ob) (us:List Int) (k:Nat) (hk:k<us.length):M8 V out (us.take (k+1))=T5 V (M8 V out (us.take k)) (us.getD k 0):=by
 unfold M8;rw[List.take_add_one,Zc hk,List.foldl_append,Zb,Zc hk];rfl
theorem E8k {l:List Ob} {k a:Nat} (hk:k<l.length) (h:∀ j (hj:j<k),l[j].a≠a) (e:l[k].a=a):L9 l (a:Int)=(k:Int):=by
 unfold L9;rw[List.findIdx?_eq_some_iff_getElem.2 ⟨hk,by simp;omega,fun j hj=>by have:=h j hj;simp;omega⟩];rfl
theorem C9k {l:List Ob} {a:Nat} (h:∀ j (hj:j<l.length),l[j].a≠a):L9 l (a:Int)=-1:=by
 unfold L9;rw[List.findIdx?_eq_none_iff.2 fun x hx=>?_];rfl;obtain⟨j,hj,rfl⟩:=List.getElem_of_mem hx;have:=h j hj;simp;omega
def PB (w:World) (b:Nat):Prop:=∃ cur t,w.heap[b]?=some (.cells cur t (0,0))
theorem PB.ext {w w':World} {b:Nat} (h:PB w b) (k:A0 w w'):PB w' b:=A0q (L:=fun _=>False) (A8.of_ext k) (fun q=>q) h
theorem C6x:(Zg.info? 102).map (fun i=>(i.zero,i.size,i.bytes))=some (some (.agg #[.int .i64 0,.slice none 0 0,.int .i64 0,.string ⟨#[]⟩,.int .i64 0]),5,64):=by kernel_rfl
theorem D2y:Zg.underlying 49=some (.pointer 102):=by kernel_rfl
theorem D9g (w:World) (b:Nat):(binOp .eql 49 (.pointer (some ⟨b,0,none⟩)) (.pointer (some ⟨b,0,none⟩))).run Zg w=.ok (.bool true) w:=by
 obtain⟨i0,hi,-,-,-⟩:=info_parts C6x;exact run_eql_ptr_same w _ D2y hi
theorem D9f {w:World} {b c:Nat} (hne:b≠c) (hb:PB w b) (hc:PB w c):(binOp .eql 49 (.pointer (some ⟨b,0,none⟩)) (.pointer (some ⟨c,0,none⟩))).run Zg w=.ok (.bool false) w:=by
 obtain⟨i0,hi,-,hz,-⟩:=info_parts C6x;obtain⟨ca,ta,h1⟩:=hb;obtain⟨cb,tb,h2⟩:=hc;exact run_eql_ptr_other w D2y hi (by rw[hz];decide) (fun e=>hne (by injection e)) h1 h2
theorem B7q (A:Option Addr) (C:Nat) (l:List Ob) (pl:Nat→Nat) (a:Nat) (w:World) (hR:F7 w A (A7b pl l)) (hl:l.length≤1000000000) (hinj:∀ o∈l,pl o.a=pl a→o.a=a) (hpb:∀ o∈l,PB w (pl o.a)) (hpa:PB w (pl a)) :
  Calls Zg 120 #[.slice A l.length C,.pointer (some ⟨pl a,0,none⟩)] w fun e w'=>e=.returned (.int .i64 (L9 l (a:Int)))∧A0 w w':=by
 have HR:=Hz hR;have HI:=Hz hinj;have HPB:=Hz hpb;have HPA:=Hz hpa;clear hR hinj hpb hpa
 go_enter Tryz.func120,Tryz.ntmps120
 go_upto_region 2 with fail
 go_loopg [5] (l.length) (fun r i wr=>∃ (k:Nat),k+r=l.length∧i=.int .i64 (k:Int)∧Hid (∀ j (hj:j<l.length),j<k→l[j].a≠a)∧Hid (A0 w wr))
 case atStart=>exact⟨0,by omega,rfl,fun j _ hj=>by omega,A0.refl _⟩
 case round =>
  obtain⟨k,hk,rfl,hN,hE⟩:=hrel
  cases gk with
  | succ r =>
   have hlt:k<l.length:=by omega
   have hltz:(k:Int)<(l.length:Int):=by omega
   obtain⟨rb,ro,hA,hc0⟩:=(HR.out.ext hE.out) k _ (B2h pl l k hlt);subst hA;have HLT:Hid (k<l.length):=hlt;obtain⟨x,hx⟩:∃ x,l[k]=x:=⟨_,rfl⟩;have hc:wr.cell? ⟨rb,ro+k,none⟩=some (.pointer (some ⟨pl x.a,0,none⟩)):=by rw[←hx];exact hc0
   have hmem:x∈l:=by rw[←hx];exact List.getElem_mem hlt
   have HX:Hid (∀ (h:k<l.length),l[k]=x):=fun h=>hx
   have HM:=Hz hmem;have HK:=Hz hk;clear hx hmem hk hc0 hlt;by_cases q:pl x.a=pl a
   ·rw[q] at hc;have hr:=D9g wr (pl a);go_wp2;go_ret;exact⟨by rw[E8k HLT.out (fun j hj=>hN.out j (by have:=HLT.out;omega) hj) (by rw[HX.out HLT.out];exact HI.out x HM.out q)];rfl,hE.out⟩
   ·have hr:=D9f q ((HPB.out x HM.out).ext hE.out) (HPA.out.ext hE.out);go_wp2
    go_roundg r
    case measure=>omega
    case rel =>
     refine⟨k+1,by have:=HK.out;omega,by go_num,fun j hj hj2=>?_,hE⟩;by_cases e:j=k
     ·subst e;rw[HX.out hj];exact fun e=>q (by rw[e])
     ·exact hN.out j hj (by omega)
  | zero =>
   obtain rfl:k=l.length:=by omega
   have hltz:¬((l.length:Nat):Int)<((l.length:Nat):Int):=by omega
   clear hk;go_wp2;go_ret;exact⟨by rw[C9k fun j hj=>hN.out j hj hj];rfl,hE.out⟩
theorem C6z:(Zg.info? 49).map (fun i=>(i.zero,i.size,i.bytes))=some (some (.pointer none),1,8):=by kernel_rfl
theorem D2z:Zg.underlying 54=some (.slice 49):=by kernel_rfl
def A8s (w:World) (B:Nat) (a:Option Addr) (c:Nat) (pl:Nat→Nat) (l:List Ob):Prop:=w.ownsRow B 49 1 (.slice a l.length c) l.length (A7b pl l)
def C3t (w:World) (B:Nat) (oa:Option Addr) (oc n:Nat) (pl:Nat→Nat) (l:List Ob) (e:Ending) (w':World):Prop :=
 ∃ a c,e=.returned (.slice a l.length c)∧A8s w' B a c pl l∧A8 (fun k=>(Value.slice oa n oc).ownBlock=some k) w w'∧∀ k,(Value.slice a l.length c).ownBlock=some k→(Value.slice oa n oc).ownBlock=some k∨w.heap.size≤k
theorem C1w (l:List Ob) (a:Nat):(0≤L9 l (a:Int))↔F8 (G9 l) (a:Int)=true:=by
 have h:decide (0≤L9 l (a:Int))=F8 (G9 l) (a:Int):=C1x l (a:Int);rw[←h];simp
theorem B3l {P:List Nat} {u:Int} (h:P2 P u) (hp:¬0≤B6 u) (hs:∀ a∈P,a≤1000000000):S9 u≠4∧O7 id u=none:=by
 have e:O7 id u=none:=if_neg hp;refine⟨?_,e⟩;unfold S9;rw[if_neg hp];rcases h with⟨a,ha,rfl⟩|⟨n,-,rfl⟩|⟨c,hc,rfl⟩
 ·exact absurd (by rw[(A5a (hs a ha)).1];omega) hp
 ·have hk:C7 (P6 n)=1:=(B0o n).2.2;have hk:P6 n%4=1:=hk;rw[if_pos hk];decide
 ·have hk:C7 (P3 c)=2:=(B1p c).2.2;have hk:P3 c%4=2:=hk;rw[if_neg (by omega)];unfold P3;omega
theorem E5v (v:Value) (k n:Int) (p:Option Addr) (w:World) (hk:k≠4):Calls Zg 119 #[v,.agg #[.int .i64 k,.int .i64 n,.pointer p]] w fun e w'=>e=.returned v∧A0 w w':=by
 have hb:(k==4)=false:=by simpa using hk
 go_enter Tryz.func119,Tryz.ntmps119
 go_wp2;go_ret;exact⟨rfl,(A0.refl _).alloc_ _⟩
theorem E5w (B:Nat) (oa:Option Addr) (oc:Nat) (pl:Nat→Nat) (l:List Ob) (a:Nat) (o:Ob) (n:Int) (w:World) (hB:B≤w.heap.size) (hl:l.length≤1000000000) (hO:A8s w B oa oc pl l) (hinj:∀ o∈l,pl o.a=pl a→o.a=a) (hpb:∀ o∈l,PB w (pl o.a)) (hpa:PB w (pl a)) (ho:o.a=a) :
  Calls Zg 119 #[.slice oa l.length oc,.agg #[.int .i64 4,.int .i64 n,.pointer (some ⟨pl a,0,none⟩)]] w (C3t w B oa oc l.length pl (if 0≤L9 l (a:Int) then l else l++[o])):=by
 obtain⟨i0,hif,hz0,hz1,hz2⟩:=info_parts C6z;have HO:=Hz hO;have HR:=Hz ((R4 hO).1);have HI:=Hz hinj;have HPB:Hid (∀ w',A0 w w'→(∀ o∈l,PB w' (pl o.a))∧PB w' (pl a)):=fun w' hx=>⟨fun o ho=>(hpb o ho).ext hx,hpa.ext hx⟩
 clear hO hinj hpb hpa;by_cases hin:0≤L9 l (a:Int)
 ·rw[if_pos hin]
  go_enter Tryz.func119,Tryz.ntmps119
  go_wp2_with (go_at_call 120;refine (B7q _ _ l pl a _ (HR.out.ext ((A0.refl _).alloc_ _)) hl HI.out (HPB.out _ ((A0.refl _).alloc_ _)).1 (HPB.out _ ((A0.refl _).alloc_ _)).2).mono ?_;rintro e w1 ⟨rfl,hq⟩;have HX1:Hid (A0 w w1):=((A0.refl w).alloc_ _).trans_ hq;clear hq)
  go_ret;exact⟨oa,oc,rfl,A2n HO.out (Nat.le_refl _) HX1.out,A8.of_ext HX1.out,fun k hk=>Or.inl hk⟩
 ·rw[if_neg hin]
  go_enter Tryz.func119,Tryz.ntmps119
  go_upto_region 3 with (go_at_call 120;refine (B7q _ _ l pl a _ (HR.out.ext ((A0.refl _).alloc_ _)) hl HI.out (HPB.out _ ((A0.refl _).alloc_ _)).1 (HPB.out _ ((A0.refl _).alloc_ _)).2).mono ?_;rintro e w1 ⟨rfl,hq⟩;have HX1:Hid (A0 w w1):=((A0.refl w).alloc_ _).trans_ hq;have q2:w1.cell? ⟨w.heap.size,2,none⟩=some (.pointer (some ⟨pl a,0,none⟩)):=hq.cell_ (by rw[World.cell?,heap_alloc_new];rfl);clear hq)
  go_wp2_with (at_builtin;(refine A5e rfl _ _ 54 rfl B 49 i0 (.pointer none) 1 8 D2z hif hz0 hz1 hz2 rfl (by decide) _ l.length (A7b pl l) rfl (Zh.alloc (A2n HO.out (Nat.le_refl _) HX1.out) _) (some ⟨_,0,none⟩) 1 1 [.pointer (some ⟨pl a,0,none⟩)] rfl (fun h=>by cases h) (Nat.le_refl _) rfl ?c1 ?c2 ?c3 ?c4 ?c5 ?_))
  case c1=>exact B8c (heap_alloc_new _ _)
  case c2=>intro u hu;simp at hu;subst hu;rfl
  case c3=>unfold maxLen;omega
  case c4=>omega
  case c5=>have:=HX1.out.size;simp;omega
  ·intro a' c' w2 hown hgrow hat';have HOW:=Hz hown;have HGR:=Hz hgrow;have HAT:=Hz hat';clear hown hgrow hat';go_wp2;go_ret;refine⟨a',c',?_,?_,?_,fun k hk=>?_⟩
   ·simp
   ·unfold A8s;rw[E9t,List.length_append,ho];exact HOW.out
   ·exact ((A8.of_ext HX1.out).alloc_ _).trans (A8.of_grown HGR.out fun k hk=>Or.inl hk)
   ·rw[List.length_append] at hk;have hk':(Value.slice a' (l.length+1) c').ownBlock=some k:=hk;rcases HAT.out with q|q
    ·exact Or.inl (by rw[←q];exact hk')
    ·rw[q] at hk';injection hk' with hk';right;have:=HX1.out.size;have hk':w1.heap.size+1=k∨w1.heap.size=k:=by first|exact Or.inl hk'|exact Or.inr hk'|(have h9:=hk';simp at h9;omega)
     omega
theorem D7w (V:List Int) (l:List Ob) {u:Int} {a:Nat} (h:B6 u=(a:Int)):T5 V l u=if 0≤L9 l (a:Int) then l else l++[D4 V a]:=by
 unfold T5;rw[h,Za];by_cases hc:0≤L9 l (a:Int)
 ·rw[if_pos hc,if_neg];rw[(C1w l a).1 hc];simp
 ·rw[if_neg hc,if_pos];refine⟨by omega,?_⟩
  cases hq:F8 (G9 l) (a:Int) with
  | false=>rfl
  | true=>exact absurd ((C1w l a).2 hq) hc
theorem D7y (V:List Int) (l:List Ob) {u:Int} (h:¬0≤B6 u):T5 V l u=l:=by
 unfold T5;rw[if_neg (fun q=>h q.1)]
theorem C8k {w0 w:World} {B0 B:Nat} {I:B4} {nx:Int} {X:Q7} (hM:E9 w0 B0 I nx X) (hx:A0 w0 w) (hw:D5 I) (hl:I.V.length≤1000000000) {u:Int} (hu:P2 I.P u) (oa:Option Addr) (oc:Nat) (l:List Ob) (hB:B≤w.heap.size) (hg:U3 I l) (hO:A8s w B oa oc X.pl l) :
  Calls Zg 119 #[.slice oa l.length oc,.agg #[.int .i64 (S9 u),.int .i64 (A1b u),.pointer (O7 X.pl u)]] w (C3t w B oa oc l.length X.pl (T5 I.V l u)):=by
 have hll:=hg.len hw;have hPs:∀ a∈I.P,a≤1000000000:=fun a ha=>by have:=hw.dom a ha;omega
 by_cases hp:0≤B6 u
 ·obtain⟨a,ha⟩:∃ a:Nat,B6 u=(a:Int):=⟨(B6 u).toNat,by omega⟩;have hm:=(P2.pts hw hl hu ha).1;have e1:S9 u=4:=if_pos hp;have e2:O7 X.pl u=some ⟨X.pl a,0,none⟩:=by unfold O7;rw[if_pos hp,ha,Za]
  rw[e1,e2,D7w I.V l ha];exact E5w B oa oc X.pl l a (D4 I.V a) (A1b u) w hB (by omega) hO (fun o ho e=>hM.inj (hg.ob o ho).2 hm e) (fun o ho=>PB.ext ((hM.node _ (hg.ob o ho).2).blk) hx) (PB.ext ((hM.node a hm).blk) hx) rfl
 ·rw[D7y I.V l hp];refine (E5v _ _ _ _ w (B3l hu hp hPs).1).mono ?_;rintro e w' ⟨rfl,hq⟩;exact⟨oa,oc,rfl,A2n hO (Nat.le_refl _) hq,A8.of_ext hq,fun k hk=>Or.inl hk⟩
def B9f (w:World) (pl:Nat→Nat) (l:List Ob) (e:Ending) (w':World):Prop :=
 ∃ a c,e=.returned (.slice a l.length c)∧A8s w' w.heap.size a c pl l∧A0 w w'
theorem C1r (w:World) (B:Nat) (I:B4) (nx:Int) (X:Q7) (hM:E9 w B I nx X) (hw:D5 I) (hl:I.V.length≤1000000000) (hrl:I.roots.length≤1000000) :
  Calls Zg 63 #[.pointer (some ⟨X.mb,0,none⟩)] w (B9f w X.pl (K4 I)):=by
 have HM:=Hz hM;have HW:=Hz hw;have q0:=hM.roots;clear hM hw
 go_enter Tryz.func63,Tryz.ntmps63
 go_upto_region 3 with fail
 go_loopg [4,3] (I.roots.length) (fun r i out wr=>∃ (k:Nat) (v:List Ob) (oa:Option Addr) (oc:Nat),k+r=I.roots.length∧i=.int .i64 (k:Int)∧out=.slice oa v.length oc∧Hid (A8s wr w.heap.size oa oc X.pl v)∧Hid (U3 I v) ∧
   Hid (v=M8 I.V [] (I.roots.take k))∧Hid (A0 w wr))
 case atStart=>exact⟨0,[],none,0,by omega,rfl,rfl,World.ownsRow_nil _ _ _ _,U3.nil I,rfl,A0.refl w⟩
 case round =>
  obtain⟨k,v,oa,oc,hk,rfl,rfl,hO,hGa,hV,hE⟩:=hrel;have hMr:=HM.out.ext hE.out;have r0:=hMr.roots
  cases gk with
  | succ r =>
   have hlt:k<I.roots.length:=by omega
   have hltz:(k:Int)<(I.roots.length:Int):=by omega
   obtain⟨c0,c1,c2⟩:=hMr.root k hlt;have hu:=HW.out.root hlt;have hsn:=C4o I.V [] I.roots k hlt;have f1:IntKind.i64.wrap ((k:Int)+1)=((k+1:Nat):Int):=by rw[IntWalk.i64_in _ (by omega)];omega
   have hsz:=hE.out.size;generalize I.roots.getD k 0=u at *
   have HU:=Hz hu;have HK:=Hz hk;have HSN:=Hz hsn;clear hMr hu hk hsn hlt
   go_wp2_with (go_at_call 119;refine (C8k HM.out hE.out HW.out hl HU.out oa oc v hsz hGa.out hO.out).mono ?_;rintro e w2 ⟨a2,c2',rfl,q1,q2,q3⟩;have Q1:=Hz q1;have Q2:=Hz q2;clear q1 q2 q3)
   go_roundg r
   case measure=>omega
   case rel =>
    refine⟨k+1,_,a2,c2',by have:=HK.out;omega,by go_num,rfl,Q1.out,hGa.out.come HW.out hl HU.out,?_,A0.keep hE.out Q2.out fun i hi=>(Zh.lt hO.out i hi).1⟩;show _=_;rw[HSN.out,←hV.out]
  | zero =>
   obtain rfl:k=I.roots.length:=by omega
   have hltz:¬((I.roots.length:Nat):Int)<(I.roots.length:Int):=by omega
   have hV':v=M8 I.V [] I.roots:=by have:=hV.out;rw[List.take_length] at this;exact this
   have HV:=Hz hV';clear hV hV' hMr hk;obtain⟨wA,rfl⟩:∃ x,x=wr:=⟨wr,rfl⟩
   go_upto_region 7 with fail
   go_loopg [5,3] (I.V.length+1) (fun r i out wr2=>∃ (k:Nat) (v:List Ob) (oa:Option Addr) (oc:Nat),k+r=I.V.length+1∧k≤v.length∧i=.int .i64 (k:Int)∧out=.slice oa v.length oc∧Hid (A8s wr2 w.heap.size oa oc X.pl v)∧Hid (U3 I v) ∧
     Hid (reachG I.V (I.V.length-k) k v=K4 I)∧Hid (A0 w wr2))
   case atStart=>exact⟨0,v,oa,oc,by omega,Nat.zero_le _,rfl,rfl,hO,hGa,(by show reachG I.V (I.V.length-0) 0 v=K4 I;rw[HV.out];rfl),hE⟩
   case round =>
    clear HV hO hGa hE hltz r0;obtain⟨k,v,oa,oc,hk,hk2,rfl,rfl,hO,hGa,hV,hE⟩:=hrel;have hglen:=hGa.out.len HW.out;have hMr:=HM.out.ext hE.out;have hnz:gk≠0:=fun q=>by omega
    obtain⟨r,rfl⟩:∃ r,gk=r+1:=⟨gk-1,by omega⟩;by_cases hlt:k<v.length
    ·have hltz:(k:Int)<(v.length:Int):=by omega
     obtain⟨ob,oo,hoa,c0⟩:=(R4 hO.out).1 _ _ (B2h X.pl v k hlt);subst hoa;have hmem:=List.getElem_mem hlt;obtain⟨g1,g2⟩:=hGa.out.ob _ hmem;obtain⟨f,hf⟩:∃ f,I.V.length-k=f+1:=⟨I.V.length-k-1,by omega⟩;have hstep:reachG I.V f (k+1) (V7 I.V v v[k])=K4 I:=by
      have:=hV.out;rw[hf] at this;unfold reachG at this;rw[Zc hlt] at this;exact this
     have HGET:Hid (v[k]?=some v[k]):=Zc hlt;have hnd:=hMr.node _ g2;generalize hx:v[k]=x at *
     have n1:=hnd.flds;have hxw:x.w=A6 I.V x.a:=by rw[g1];rfl
     have hxn:A9 I.V x.a=x.n:=by unfold A9 Ob.n;rw[hxw]
     have HST:=Hz hstep;have HG2:=Hz g2;have HF:=Hz hf;have HXW:=Hz hxw;have HXN:=Hz hxn;have HKV:Hid (k<v.length):=hlt;have HK:=Hz hk;have f1:IntKind.i64.wrap ((k:Int)+1)=((k+1:Nat):Int):=by rw[IntWalk.i64_in _ (by omega)];omega
     clear hV hstep hf hmem hx hnd hxw hxn g1 g2 hk;by_cases hk8:B3 (A6 I.V x.a)<8
     ·have e1:A2f X I.V x.a=.slice none 0 0:=if_pos hk8;rw[e1] at n1;have hst2:V7 I.V v x=v:=by unfold V7;rw[HXW.out,if_pos (show D2 (B3 (A6 I.V x.a))=true by unfold D2;exact decide_eq_true hk8)]
      have HS2:=Hz hst2;clear hst2 hlt;go_wp2;refine wp_loop_rounds 1 ?_;rw[rounds_succ];go_wp2
      go_roundg r
      case measure=>omega
      case rel =>
       refine⟨k+1,v,_,oc,by have:=HK.out;omega,by have:=HKV.out;omega,by go_num,rfl,hO,hGa,?_,hE⟩;have h:=HST.out;rw[HS2.out] at h;show reachG I.V (I.V.length-(k+1)) (k+1) v=K4 I;rw[show I.V.length-(k+1)=f by have:=HF.out;omega];exact h
     ·have e1:A2f X I.V x.a=.slice (some ⟨X.fl x.a,0,none⟩) (A9 I.V x.a) (A9 I.V x.a):=if_neg hk8;have HK8:Hid (8≤B3 (A6 I.V x.a)):=by unfold Hid;omega
      have hsz4:A9 I.V x.a≤1000000000:=by have:=HW.out.dom _ HG2.out;omega
      have HE1:=Hz e1;obtain⟨sz,hsz⟩:∃ sz,A9 I.V x.a=sz:=⟨_,rfl⟩;rw[hsz] at hsz4;have HSZ:=Hz hsz;clear e1 hsz n1 c0 hlt hMr
      go_upto_region 10 with fail
      go_loopg [6,3] sz (fun r3 i out wr3=>∃ (j:Nat) (v3:List Ob) (oa:Option Addr) (oc:Nat),j+r3=sz∧i=.int .i64 (j:Int)∧out=.slice oa v3.length oc∧Hid (A8s wr3 w.heap.size oa oc X.pl v3)∧Hid (U3 I v3) ∧
        Hid (v3=M8 I.V v ((K8 I.V x).take j))∧Hid (v3[k]?=some x)∧Hid (A0 w wr3))
      case atStart=>exact⟨0,v,_,oc,by omega,rfl,rfl,hO,hGa,rfl,HGET,hE⟩
      case round =>
       clear hO hGa hE;obtain⟨j,v3,oa3,oc3,hj,rfl,rfl,hO,hGa,hV,hX,hE⟩:=hrel;obtain⟨hk3,hx3⟩:=List.getElem?_eq_some_iff.1 hX.out;obtain⟨ob3,oo3,hoa3,c0⟩:=(R4 hO.out).1 _ _ (B2h X.pl v3 k hk3);subst hoa3;have c0':wr.cell? ⟨ob3,oo3+k,none⟩=some (.pointer (some ⟨X.pl x.a,0,none⟩)):=by rw[←hx3];exact c0
       have hk3z:(k:Int)<(v3.length:Int):=by omega
       have hMr:=HM.out.ext hE.out;have hnd:=hMr.node _ HG2.out;have n1:=hnd.flds;rw[HE1.out,HSZ.out] at n1;have HV3:Hid (k<v3.length):=hk3;clear c0 hx3 hk3
       cases gk with
       | succ r3 =>
        have hlt:j<sz:=by omega
        have hltz:(j:Int)<(sz:Int):=by omega
        obtain⟨d0,d1,d2⟩:=hnd.fld HK8.out j (by rw[HSZ.out];exact hlt);have hu:=HW.out.fld _ HG2.out (show D2 (B3 (A6 I.V x.a))=false by unfold D2;exact decide_eq_false (by have:=HK8.out;omega)) j (by rw[HSZ.out];exact hlt);have hfl:(K8 I.V x).length=sz:=by rw[←HSZ.out,HXN.out];simp[K8]
        have hsn:=C4o I.V v (K8 I.V x) j (by omega);have hgd:(K8 I.V x).getD j 0=A6 I.V (x.a+1+j):=by
         have:j<x.n:=by rw[←HXN.out,HSZ.out];exact hlt
         simp[K8,Zb,this]
        rw[hgd] at hsn;have hszw:=hE.out.size;have f2:IntKind.i64.wrap ((j:Int)+1)=((j+1:Nat):Int):=by rw[IntWalk.i64_in _ (by omega)];omega
        generalize A6 I.V (x.a+1+j)=u at *
        have HU:=Hz hu;have HJ:=Hz hj;have HSN:=Hz hsn;clear hMr hnd hu hj hsn hgd hfl hlt
        go_wp2_with (go_at_call 119;refine (C8k HM.out hE.out HW.out hl HU.out _ oc3 v3 hszw hGa.out hO.out).mono ?_;rintro e w2 ⟨a2,c2',rfl,q1,q2,q3⟩;have Q1:=Hz q1;have Q2:=Hz q2;clear q1 q2 q3)
        go_roundg r3
        case measure=>omega
        case rel =>
         refine⟨j+1,_,a2,c2',by have:=HJ.out;omega,by go_num,rfl,Q1.out,hGa.out.come HW.out hl HU.out,?_,?_,A0.keep hE.out Q2.out fun i hi=>(Zh.lt hO.out i hi).1⟩
         ·show _=_;rw[HSN.out,←hV.out]
         ·obtain⟨t,ht⟩:=C4n I.V v3 u;show _=_;rw[ht,List.getElem?_append_left HV3.out];exact hX.out
       | zero =>
        obtain rfl:j=sz:=by omega
        have hltz:¬((j:Nat):Int)<((j:Nat):Int):=by omega
        have hV':v3=V7 I.V v x:=by
         have h:=hV.out;unfold V7;rw[HXW.out,if_neg (show ¬D2 (B3 (A6 I.V x.a))=true by unfold D2;simp;exact HK8.out),h,List.take_of_length_le (by rw[←HSZ.out,HXN.out];simp[K8])]
        have HV2:=Hz hV';clear hV hV' hMr hnd hj;go_wp2
        go_roundg r
        case measure=>omega
        case rel =>
         refine⟨k+1,v3,_,oc3,by have:=HK.out;omega,by have:=HV3.out;omega,by go_num,rfl,hO,hGa,?_,hE⟩;show reachG I.V (I.V.length-(k+1)) (k+1) v3=K4 I;rw[show I.V.length-(k+1)=f by have:=HF.out;omega,HV2.out];exact HST.out
    ·have hltz:¬(k:Int)<(v.length:Int):=by omega
     have hV':v=K4 I:=by have:=hV.out;rw[D0v _ _ _ _ (by omega)] at this;exact this
     have HV:=Hz hV';clear hV hV' hlt hMr hk;go_wp2;go_ret;unfold B9f;rw[←HV.out];exact⟨oa,oc,rfl,hO.out,hE.out⟩
def A1m (w:World) (b o:Nat) (k n:Int) (p:Option Addr):World:=((w.setCell ⟨b,o,none⟩ (.int .i64 k)).setCell ⟨b,o+1,none⟩ (.int .i64 n)).setCell ⟨b,o+2,none⟩ (.pointer p)
section
variable {w w':World} {b o B:Nat} {pl:Nat→Nat} {u nx sr k n:Int} {p:Option Addr} {V W:List Int} {X X':Q7} {a:Nat} {I:B4}
theorem A4v (w:World) (b o:Nat) (x:Value):A8 (·=b) w (w.setCell ⟨b,o,none⟩ x):=A8.of_but (B1m w ⟨b,o,none⟩ x)
theorem C2p:A8 (·=b) w (A1m w b o k n p):=by
 unfold A1m;exact ((A4v _ b _ _).trans (A4v _ b _ _)).trans (A4v _ b _ _)
theorem D1l (h:∃ cur t,w.heap[b]?=some (.cells cur t (0,0))):∃ cur t,(A1m w b o k n p).heap[b]?=some (.cells cur t (0,0)):=A3g (A3g (A3g h))
theorem D1m (h:A5r w b o pl u) {v:Int} {q:Nat→Nat} (hk:S9 v=k) (hn:A1b v=n) (hp:O7 q v=p):A5r (A1m w b o k n p) b o q v:=by
 subst hk hn hp;unfold A1m;refine⟨?_,?_,?_⟩
 ·rw[J4 (by omega),J4 (by omega),A1c h.k]
 ·rw[J4 (by omega),A1c (x:=.int .i64 (A1b u)) (by rw[J4 (by omega)];exact h.n)]
 ·rw[A1c (x:=.pointer (O7 pl u)) (by rw[J4 (by omega),J4 (by omega)];exact h.p)]
theorem D1n (h:A5r w b o pl u) {o':Nat} (ho:o+2<o'∨o'+2<o):A5r (A1m w b o' k n p) b o pl u:=by
 unfold A1m;refine⟨?_,?_,?_⟩
 ·rw[J4 (by omega),J4 (by omega),J4 (by omega)];exact h.k
 ·rw[J4 (by omega),J4 (by omega),J4 (by omega)];exact h.n
 ·rw[J4 (by omega),J4 (by omega),J4 (by omega)];exact h.p
theorem E9.apart (h:E9 w B I nx X):X.mb≠X.G∧(∀ g,X.wv.ownBlock=some g→g≠X.mb∧g≠X.G)∧(∀ a∈I.P,X.pl a≠X.mb∧X.pl a≠X.G∧(∀ g,X.wv.ownBlock=some g→X.pl a≠g)) ∧
  (∀ a∈I.P,8≤B3 (A6 I.V a)→X.fl a≠X.mb∧X.fl a≠X.G∧(∀ g,X.wv.ownBlock=some g→X.fl a≠g))∧(∀ a∈I.P,∀ c∈I.P,8≤B3 (A6 I.V c)→X.pl a≠X.fl c)∧(∀ a∈I.P,∀ c∈I.P,8≤B3 (A6 I.V a)→8≤B3 (A6 I.V c)→X.fl a=X.fl c→a=c):=by
 obtain⟨R,t⟩:=h.tags;have tm:=t.m;have tg:=t.g;refine⟨fun e=>?_,fun g hg=>⟨fun e=>?_,fun e=>?_⟩,fun a ha=>⟨fun e=>?_,fun e=>?_,fun g hg e=>?_⟩,fun a ha h8=>⟨fun e=>?_,fun e=>?_,fun g hg e=>?_⟩,fun a ha c hc h8 e=>?_,fun a ha c hc h8 h9 e=>?_⟩
 ·rw[e] at tm;omega
 ·have:=t.w g hg;rw[e] at this;omega
 ·have:=t.w g hg;rw[e] at this;omega
 ·have:=t.p a ha;rw[e] at this;omega
 ·have:=t.p a ha;rw[e] at this;omega
 ·have h1:=t.p a ha;have:=t.w g hg;rw[e] at h1;omega
 ·have:=t.f a ha h8;rw[e] at this;omega
 ·have:=t.f a ha h8;rw[e] at this;omega
 ·have h1:=t.f a ha h8;have:=t.w g hg;rw[e] at h1;omega
 ·have h1:=t.p a ha;have:=t.f c hc h8;rw[e] at h1;omega
 ·have h1:=t.f a ha h8;have:=t.f c hc h9;rw[e] at h1;omega
theorem C5v {α:Type} {l:List α} {r s:Nat} {x d:α} (h:r≠s):(l.set r x).getD s d=l.getD s d:=by
 rw[Zb,Zb,List.getElem?_set_ne h]
theorem C5w {α:Type} {l:List α} {r:Nat} {x d:α} (h:r<l.length):(l.set r x).getD r d=x:=by
 rw[Zb,List.getElem?_set_self h];rfl
theorem E9.setR (h:E9 w B I nx X) {r:Nat} (hr:r<I.roots.length) {v:Int} (hk:S9 v=k) (hn:A1b v=n) (hp:O7 X.pl v=p):E9 (A1m w X.G (r*3) k n p) B (I.setR r v) nx X∧A8 (ML I X) w (A1m w X.G (r*3) k n p):=by
 obtain⟨a1,a2,a3,a4,a5,a6⟩:=h.apart;have hkp:=C2p (w:=w) (b:=X.G) (o:=r*3) (k:=k) (n:=n) (p:=p);refine⟨⟨A0q hkp a1 h.mblk,?_,hkp.cell (p:=⟨X.mb,1,none⟩) a1 h.weak,hkp.cell (p:=⟨X.mb,2,none⟩) a1 h.next,D1l h.gblk,fun i hi=>?_,h.wk.keep hkp (fun g hg=>(a2 g hg).2),fun a ha=>(h.node a ha).keep hkp (a3 a ha).2.1 (fun q=>(a4 a ha q).2.1),h.low,by obtain⟨R,t⟩:=h.tags;exact⟨R,t.m,t.g,t.w,t.p,t.f⟩⟩,hkp.sub fun i e=>Or.inr (Or.inl e)⟩
 ·have:=hkp.cell (p:=⟨X.mb,0,none⟩) a1 h.roots;rw[this];show _=some (Value.slice _ (I.roots.set r v).length (I.roots.set r v).length);rw[List.length_set]
 ·have hi':i<I.roots.length:=by have:i<(I.roots.set r v).length:=hi;rwa [List.length_set] at this
  show A5r _ _ _ _ ((I.roots.set r v).getD i 0);by_cases e:r=i
  ·subst e;rw[C5w hr];exact D1m (h.root r hr) hk hn hp
  ·rw[C5v e];exact D1n (h.root i hi') (by omega)
theorem F7b (hro:A2s V (D4 V a)) (h2:B3 (A6 V a)=2) (hs:∀ i,i<1+A9 V a→A6 W (a+i)=A6 V (a+i)):V0 W a=V0 V a:=by
 obtain⟨t1,t2,t3⟩:=hro.two h2;have t1':0≤A6 V (a+1):=t1;have hn:A9 V a=1+((A6 V (a+1)).toNat+7)/8:=t3;have e1:A6 W (a+1)=A6 V (a+1):=hs 1 (by omega);unfold V0;rw[e1];have e2:A2c W a (((A6 V (a+1)).toNat+7)/8)=A2c V a (((A6 V (a+1)).toNat+7)/8):=by
  unfold A2c;refine List.map_congr_left fun j hj=>?_
  have hj2:=List.mem_range.1 hj;have:=hs (2+j) (by omega);rw[show a+2+j=a+(2+j) by omega];exact this
 rw[e2]
theorem E5c (hro:A2s V (D4 V a)) (h1:B3 (A6 V a)=1) (hs:∀ i,i<1+A9 V a→A6 W (a+i)=A6 V (a+i)):Z5 W a=Z5 V a:=by
 have hn:A9 V a=1:=hro.one h1;unfold Z5;rw[hs 1 (by omega)]
theorem A3f.same (h:A3f w V X a sr) (hro:A2s V (D4 V a)) (hs:∀ i,i<1+A9 V a→A6 W (a+i)=A6 V (a+i)) (hpl:X'.pl a=X.pl a) (hfl:8≤B3 (A6 V a)→X'.fl a=X.fl a)
  (hc:8≤B3 (A6 V a)→∀ j,j<A9 V a→O7 X'.pl (A6 V (a+1+j))=O7 X.pl (A6 V (a+1+j))):A3f w W X' a sr:=by
 have e0:A6 W a=A6 V a:=hs 0 (by omega);have es:A9 W a=A9 V a:=by unfold A9;rw[e0]
 refine⟨by rw[hpl];exact h.blk,by rw[hpl,e0];exact h.kind,?_,?_,?_,by rw[hpl];exact h.ser,fun q=>?_,fun q j hj=>?_⟩
 ·rw[hpl,h.flds];unfold A2f;rw[e0,es];by_cases q:B3 (A6 V a)<8
  ·rw[if_pos q,if_pos q]
  ·rw[if_neg q,if_neg q,hfl (by omega)]
 ·rw[hpl,h.num,e0];by_cases q:B3 (A6 V a)=1
  ·rw[if_pos q,if_pos q,E5c hro q hs]
  ·rw[if_neg q,if_neg q]
 ·rw[hpl,h.str,e0];by_cases q:B3 (A6 V a)=2
  ·rw[if_pos q,if_pos q,F7b hro q hs]
  ·rw[if_neg q,if_neg q]
 ·rw[e0] at q;rw[hfl q];exact h.fblk q
 ·rw[e0] at q;rw[es] at hj;obtain⟨c0,c1,c2⟩:=h.fld q j hj;rw[hfl q,show a+1+j=a+(1+j) by omega,hs (1+j) (by omega),show a+(1+j)=a+1+j by omega];exact⟨c0,c1,by rw[hc q j hj];exact c2⟩
def Q7.new (X:Q7) (a p f:Nat):Q7:={X with pl:=fun c=>if c=a then p else X.pl c,fl:=fun c=>if c=a then f else X.fl c}
theorem C4h (hw:D5 I) (hl:I.V.length≤1000000000) (hu:P2 I.P u) (p f:Nat):O7 (X.new I.V.length p f).pl u=O7 X.pl u:=by
 unfold O7;by_cases hp:0≤B6 u
 ·obtain⟨a,ha⟩:∃ a:Nat,B6 u=(a:Int):=⟨(B6 u).toNat,by omega⟩;have hm:=(P2.pts hw hl hu ha).1;have:=hw.dom a hm;rw[if_pos hp,if_pos hp,ha,Za];show some (⟨if a=I.V.length then p else X.pl a,0,none⟩:Addr)=_;rw[if_neg (by omega)]
 ·rw[if_neg hp,if_neg hp]
theorem F1d (hw:D5 I) (hl:I.V.length≤1000000000):A5p I I.V.length=0:=by
 unfold A5p A0s;have e:I.ids.find? (fun x=>B6 x.1==(I.V.length:Int))=none:=List.find?_eq_none.2 fun x hx=>by
  obtain⟨a,ha,e⟩:=hw.ids x hx;have:=hw.dom a ha;have:=(A5a (show a≤1000000000 by omega)).1;rw[e];simp;omega
 rw[e];rfl
abbrev B4.wR (I:B4) (R:List Int):B4:=⟨I.V,I.P,R,I.weak,I.ids⟩
theorem E9.newR {R:List Int} (h:E9 w B (I.wR R) nx X) (hrt:∀ i,i<R.length→P2 I.P (R.getD i 0)∨¬0≤B6 (R.getD i 0)) (hw:D5 I) (hl:I.V.length≤1000000000) (hx:A0 w w') {kind:Int} {us:List Int} {p f:Nat} (hp:w.heap.size≤p) (hB:B≤w.heap.size) (hf:8≤kind→w.heap.size≤f∧f≠p) (hk:0≤kind∧kind≤255) (hz:us.length≤4096)
  (hn:A3f w' ((I.wR R).new kind us).V (X.new I.V.length p f) I.V.length 0):E9 w' B ((I.wR R).new kind us) nx (X.new I.V.length p f):=by
 have h0:=h.ext hx;have hkd:B3 (A6 ((I.wR R).new kind us).V I.V.length)=kind:=by
  rw[A3a];exact (A1t kind 0 0 (us.length:Int) hk (by omega) (by omega) ⟨by omega,by omega⟩).2.1
 have hP:∀ a∈((I.wR R).new kind us).P,a∈I.P∨a=I.V.length:=fun a ha=>by
  rcases Zd.1 (show a∈I.P++[I.V.length] from ha) with q|q
  ·exact Or.inl q
  ·exact Or.inr (Zf.1 q)
 have hlt:∀ a∈I.P,a<I.V.length:=fun a ha=>by have:=hw.dom a ha;omega
 have hw0:∀ a∈I.P,∀ i,i<1+A9 I.V a→A6 ((I.wR R).new kind us).V (a+i)=A6 I.V (a+i):=fun a ha i hi=>A8m (I.wR R) kind us (show a+i<I.V.length by have:=hw.dom a ha;omega)
 have hpl:∀ a∈I.P,(X.new I.V.length p f).pl a=X.pl a:=fun a ha=>if_neg (by have:=hlt a ha;omega)
 have hfl:∀ a∈I.P,(X.new I.V.length p f).fl a=X.fl a:=fun a ha=>if_neg (by have:=hlt a ha;omega)
 have hpn:(X.new I.V.length p f).pl I.V.length=p:=if_pos rfl;have hfn:(X.new I.V.length p f).fl I.V.length=f:=if_pos rfl;have hko:∀ a∈I.P,B3 (A6 ((I.wR R).new kind us).V a)=B3 (A6 I.V a):=fun a ha=>by rw[show A6 ((I.wR R).new kind us).V a=A6 I.V a from hw0 a ha 0 (by omega)]
 refine⟨h0.mblk,h0.roots,h0.weak,h0.next,h0.gblk,fun i hi=>?_,?_,fun a ha=>?_,⟨h0.low.1,h0.low.2.1,fun a ha=>?_⟩,?_⟩
 ·obtain⟨c0,c1,c2⟩:=h0.root i hi;refine⟨c0,c1,?_⟩;have hi':i<R.length:=hi;rw[show ((I.wR R).new kind us).roots=R from rfl];rcases hrt i hi' with q|q
  ·rw[C4h hw hl q p f];exact c2
  ·have e:∀ pl,O7 pl (R.getD i 0)=none:=fun pl=>if_neg q
   have c2':w'.cell? _=some (.pointer (O7 X.pl (R.getD i 0))):=c2;rw[e] at c2' ⊢;exact c2'
 ·have e:wkV (X.new I.V.length p f) ((I.wR R).new kind us)=wkV X I:=by
   unfold wkV;refine List.map_congr_left fun v hv=>?_
   obtain⟨a,ha,rfl⟩:=hw.weak v hv;rw[(A5a (show a≤1000000000 by have:=hlt a ha;omega)).1,Za,hpl a ha]
  rw[e];exact h0.wk
 ·rcases hP a ha with q|rfl
  ·exact (h0.node a q).same (hw.head a q).raw (hw0 a q) (hpl a q) (fun _=>hfl a q) fun h8 j hj=>C4h hw hl (hw.fld a q (by have h9:8≤B3 (A6 I.V a):=h8;unfold D2;exact decide_eq_false (by omega)) j hj) p f
  ·rw[show A5p ((I.wR R).new kind us) I.V.length=A5p I I.V.length from rfl,F1d hw hl];exact hn
 ·rcases hP a ha with q|rfl
  ·rw[hpl a q,hfl a q,hko a q];exact h0.low.2.2 a q
  ·rw[hpn,hfn,hkd];exact⟨by omega,fun h8=>by have:=(hf h8).1;omega⟩
 ·obtain⟨Rt,t⟩:=h.tags;have hne:∀ k,ML (I.wR R) X k→k≠p∧(8≤kind→k≠f):=fun k hk2=>by
   have h1:=(h.own hk2).2;exact⟨by omega,fun h8=>by have:=(hf h8).1;omega⟩
  refine⟨fun k=>if k=p then 2*I.V.length+3 else if 8≤kind∧k=f then 2*I.V.length+4 else Rt k,?_,?_,fun k hk2=>?_,fun a ha=>?_,fun a ha h8=>?_⟩
  ·have:=hne X.mb (Or.inl rfl);show (if X.mb=p then _ else _)=0;rw[if_neg this.1,if_neg (fun q=>this.2 q.1 q.2)];exact t.m
  ·have:=hne X.G (Or.inr (Or.inl rfl));show (if X.G=p then _ else _)=1;rw[if_neg this.1,if_neg (fun q=>this.2 q.1 q.2)];exact t.g
  ·have:=hne k (Or.inr (Or.inr (Or.inl hk2)));show (if k=p then _ else _)=2;rw[if_neg this.1,if_neg (fun q=>this.2 q.1 q.2)];exact t.w k hk2
  ·rcases hP a ha with q|rfl
   ·have:=hne (X.pl a) (Or.inr (Or.inr (Or.inr ⟨a,q,Or.inl rfl⟩)));rw[hpl a q];show (if X.pl a=p then _ else _)=_;rw[if_neg this.1,if_neg (fun q=>this.2 q.1 q.2)];exact t.p a q
   ·rw[hpn];show (if p=p then _ else _)=_;rw[if_pos rfl]
  ·rcases hP a ha with q|rfl
   ·rw[hko a q] at h8;have:=hne (X.fl a) (Or.inr (Or.inr (Or.inr ⟨a,q,Or.inr ⟨h8,rfl⟩⟩)));rw[hfl a q];show (if X.fl a=p then _ else _)=_;rw[if_neg this.1,if_neg (fun q=>this.2 q.1 q.2)];exact t.f a q h8
   ·rw[hkd] at h8;rw[hfn];show (if f=p then _ else if 8≤kind∧f=f then _ else _)=_;rw[if_neg (hf h8).2,if_pos ⟨h8,rfl⟩]
theorem E9.new (h:E9 w B I nx X) (hw:D5 I) (hl:I.V.length≤1000000000) (hx:A0 w w') {kind:Int} {us:List Int} {p f:Nat} (hp:w.heap.size≤p) (hB:B≤w.heap.size) (hf:8≤kind→w.heap.size≤f∧f≠p) (hk:0≤kind∧kind≤255) (hz:us.length≤4096)
  (hn:A3f w' (I.new kind us).V (X.new I.V.length p f) I.V.length 0):E9 w' B (I.new kind us) nx (X.new I.V.length p f) :=
 E9.newR (R:=I.roots) h (fun i hi=>Or.inl (hw.root hi)) hw hl hx hp hB hf hk hz hn
theorem E9.put (h:E9 w B I nx X) (hw:D5 I) {a j:Nat} (ha:a∈I.P) (h8:8≤B3 (A6 I.V a)) (hj:j<A9 I.V a) {v:Int} (hk:S9 v=k) (hn:A1b v=n) (hp:O7 X.pl v=p) :
  E9 (A1m w (X.fl a) (j*3) k n p) B (I.put (a+1+j) v) nx X∧A8 (ML I X) w (A1m w (X.fl a) (j*3) k n p):=by
 obtain⟨a1,a2,a3,a4,a5,a6⟩:=h.apart;obtain⟨f1,f2,f3⟩:=a4 a ha h8;have hkp:=C2p (w:=w) (b:=X.fl a) (o:=j*3) (k:=k) (n:=n) (p:=p);have hd:=hw.dom a ha;have ne:∀ i,i≠a+1+j→A6 (I.put (a+1+j) v).V i=A6 I.V i:=fun i hi=>A2r _ _ _ _ hi
 have hso:∀ c∈I.P,c≠a→∀ i,i<1+A9 I.V c→A6 (I.put (a+1+j) v).V (c+i)=A6 I.V (c+i):=fun c hc q i hi=>ne _ fun e=>by
  rcases Nat.lt_or_gt_of_ne q with q|q
  ·have:=hw.apart c hc a ha q;omega
  ·have:=hw.apart a ha c hc q;omega
 have hw0:∀ c∈I.P,A6 (I.put (a+1+j) v).V c=A6 I.V c:=fun c hc=>by
  by_cases q:c=a
  ·subst q;exact ne c (by omega)
  ·exact hso c hc q 0 (by omega)
 refine⟨⟨A0q hkp (Ne.symm f1) h.mblk,hkp.cell (p:=⟨X.mb,0,none⟩) (Ne.symm f1) h.roots,hkp.cell (p:=⟨X.mb,1,none⟩) (Ne.symm f1) h.weak,hkp.cell (p:=⟨X.mb,2,none⟩) (Ne.symm f1) h.next,A0q hkp (Ne.symm f2) h.gblk,fun i hi=>(h.root i hi).keep hkp (Ne.symm f2),h.wk.keep hkp (fun g hg=>Ne.symm (f3 g hg)),fun c hc=>?_,⟨h.low.1,h.low.2.1,fun c hc=>by rw[hw0 c hc];exact h.low.2.2 c hc⟩,?_⟩,hkp.sub fun i e=>Or.inr (Or.inr (Or.inr ⟨a,ha,Or.inr ⟨h8,e⟩⟩))⟩
 ·have hcI:c∈I.P:=hc;by_cases q:c=a
  ·subst q;have e0:=hw0 c hcI;have es:A9 (I.put (c+1+j) v).V c=A9 I.V c:=by unfold A9;rw[e0]
   have hN:=h.node c hcI;have np:=a5 c hcI c hcI h8;refine⟨A0q hkp np hN.blk,by rw[e0];exact hkp.cell (p:=⟨X.pl c,0,none⟩) np hN.kind,?_,?_,?_,hkp.cell (p:=⟨X.pl c,4,none⟩) np hN.ser,fun _=>D1l (hN.fblk h8),fun _ i hi=>?_⟩
   ·have:=hkp.cell (p:=⟨X.pl c,1,none⟩) np hN.flds;rw[this];unfold A2f;rw[e0,es]
   ·have:=hkp.cell (p:=⟨X.pl c,2,none⟩) np hN.num;rw[this,e0,if_neg (by omega),if_neg (by omega)]
   ·have:=hkp.cell (p:=⟨X.pl c,3,none⟩) np hN.str;rw[this,e0,if_neg (by omega),if_neg (by omega)]
   ·rw[es] at hi;by_cases e:i=j
    ·subst e;rw[show A6 (I.put (c+1+i) v).V (c+1+i)=v from A6q _ _ _ (by omega)];exact D1m (hN.fld h8 i hi) hk hn hp
    ·rw[ne _ (by omega)];exact D1n (hN.fld h8 i hi) (by omega)
  ·have hN:=(h.node c hcI).keep hkp (a5 c hcI a ha h8) (fun h9 e=>q (a6 c hcI a ha h9 h8 e));exact hN.same (hw.head c hcI).raw (hso c hcI q) rfl (fun _=>rfl) fun _ _ _=>rfl
 ·obtain⟨R,t⟩:=h.tags;exact⟨R,t.m,t.g,t.w,t.p,fun c hc h9=>t.f c hc (by rw[←hw0 c hc];exact h9)⟩
theorem F1c {I:B4} {a c:Nat} {s:Int} (ha:a≤1000000000) (hn:A0s I (a:Int)=none):A0s (I.addId (D3 (a:Int)) s) (c:Int)=if c=a then some s else A0s I (c:Int):=by
 have hp:=(A5a ha).1;unfold A0s at hn ⊢;show ((I.ids++[(D3 (a:Int),s)]).find? _).map _=_;rw[List.find?_append];by_cases e:c=a
 ·subst e;rw[if_pos rfl]
  cases hf:I.ids.find? (fun x=>B6 x.1==(c:Int)) with
  | some x=>rw[hf] at hn;cases hn
  | none=>simp[hp]
 ·rw[if_neg e]
  cases hf:I.ids.find? (fun x=>B6 x.1==(c:Int)) with
  | some x=>simp
  | none =>
   have:¬((a:Int)=(c:Int)):=by omega
   simp[hp,this]
theorem E9.serial (h:E9 w B I nx X) (hw:D5 I) (hl:I.V.length≤1000000000) {a:Nat} (ha:a∈I.P) (hs:A0s I (a:Int)=none) :
  E9 ((w.setCell ⟨X.mb,2,none⟩ (.int .i64 nx)).setCell ⟨X.pl a,4,none⟩ (.int .i64 nx)) B (I.addId (D3 (a:Int)) nx) (nx+1) X∧A8 (ML I X) w ((w.setCell ⟨X.mb,2,none⟩ (.int .i64 nx)).setCell ⟨X.pl a,4,none⟩ (.int .i64 nx)):=by
 obtain⟨a1,a2,a3,a4,a5,a6⟩:=h.apart;obtain⟨p1,p2,p3⟩:=a3 a ha;have hkp:A8 (fun k=>k=X.mb∨k=X.pl a) w ((w.setCell ⟨X.mb,2,none⟩ (.int .i64 nx)).setCell ⟨X.pl a,4,none⟩ (.int .i64 nx)):=((A4v w X.mb 2 _).sub fun i e=>Or.inl e).trans ((A4v _ (X.pl a) 4 _).sub fun i e=>Or.inr e);have hal:a≤1000000000:=by have:=hw.dom a ha;omega
 have oth:∀ {b o:Nat} {x:Value},b≠X.pl a→w.cell? ⟨b,o,none⟩=some x→(b≠X.mb∨o≠2)→((w.setCell ⟨X.mb,2,none⟩ (.int .i64 nx)).setCell ⟨X.pl a,4,none⟩ (.int .i64 nx)).cell? ⟨b,o,none⟩=some x:=fun {b o x} n1 hc n2=>by
  have k2:A8 (·=X.pl a) (w.setCell ⟨X.mb,2,none⟩ (.int .i64 nx)) ((w.setCell ⟨X.mb,2,none⟩ (.int .i64 nx)).setCell ⟨X.pl a,4,none⟩ (.int .i64 nx)):=A4v _ _ _ _;refine k2.cell (p:=⟨b,o,none⟩) n1 ?_;by_cases e:b=X.mb
  ·subst e;rw[J4 (by rcases n2 with q|q;exact absurd rfl q;omega)];exact hc
  ·have k1:A8 (·=X.mb) w (w.setCell ⟨X.mb,2,none⟩ (.int .i64 nx)):=A4v _ _ _ _;exact k1.cell (p:=⟨b,o,none⟩) e hc
 have mne:X.mb≠X.pl a:=Ne.symm p1;have serE:∀ c,A5p (I.addId (D3 (a:Int)) nx) c=if c=a then nx else A5p I c:=fun c=>by
  unfold A5p;rw[F1c hal hs];by_cases e:c=a
  ·rw[if_pos e,if_pos e];rfl
  ·rw[if_neg e,if_neg e]
 refine⟨⟨?_,oth mne h.roots (Or.inr (by omega)),oth mne h.weak (Or.inr (by omega)),?_,A0q hkp (fun q=>by rcases q with q|q;exact a1 q.symm;exact p2 q.symm) h.gblk,fun i hi=>(h.root i hi).keep hkp (fun q=>by rcases q with q|q;exact a1 q.symm;exact p2 q.symm),h.wk.keep hkp (fun g hg q=>by rcases q with q|q;exact (a2 g hg).1 q;exact p3 g hg q.symm),fun c hc=>?_,h.low,?_⟩,hkp.sub fun i e=>by rcases e with e|e;exact Or.inl e;exact Or.inr (Or.inr (Or.inr ⟨a,ha,Or.inl e⟩))⟩
 ·obtain⟨cur,t,hc⟩:=A3g (o:=2) (u:=.int .i64 nx) h.mblk;have k2:A8 (·=X.pl a) (w.setCell ⟨X.mb,2,none⟩ (.int .i64 nx)) ((w.setCell ⟨X.mb,2,none⟩ (.int .i64 nx)).setCell ⟨X.pl a,4,none⟩ (.int .i64 nx)):=A4v _ _ _ _;exact A0q k2 mne ⟨cur,t,hc⟩
 ·have k2:A8 (·=X.pl a) (w.setCell ⟨X.mb,2,none⟩ (.int .i64 nx)) ((w.setCell ⟨X.mb,2,none⟩ (.int .i64 nx)).setCell ⟨X.pl a,4,none⟩ (.int .i64 nx)):=A4v _ _ _ _;have:=k2.cell (p:=⟨X.mb,2,none⟩) mne (A1c h.next);rw[this];congr 2;omega
 ·have hcI:c∈I.P:=hc;have hN:=h.node c hcI;by_cases q:c=a
  ·subst q;have same4:∀ {o:Nat} {x:Value},o≠4→w.cell? ⟨X.pl c,o,none⟩=some x→((w.setCell ⟨X.mb,2,none⟩ (.int .i64 nx)).setCell ⟨X.pl c,4,none⟩ (.int .i64 nx)).cell? ⟨X.pl c,o,none⟩=some x:=fun {o x} ho hx=>by
    rw[J4 (Ne.symm ho)];have k1:A8 (·=X.mb) w (w.setCell ⟨X.mb,2,none⟩ (.int .i64 nx)):=A4v _ _ _ _;exact k1.cell (p:=⟨X.pl c,o,none⟩) p1 hx
   have k1:A8 (·=X.mb) w (w.setCell ⟨X.mb,2,none⟩ (.int .i64 nx)):=A4v _ _ _ _;refine⟨A3g (A0q k1 p1 hN.blk),same4 (by omega) hN.kind,same4 (by omega) hN.flds,same4 (by omega) hN.num,same4 (by omega) hN.str,?_,fun h8=>A0q hkp (fun q=>by rcases q with q|q;exact (a4 c ha h8).1 q;exact a5 c ha c ha h8 q.symm) (hN.fblk h8),fun h8 j hj=>(hN.fld h8 j hj).keep hkp (fun q=>by rcases q with q|q;exact (a4 c ha h8).1 q;exact a5 c ha c ha h8 q.symm)⟩;rw[serE,if_pos rfl];exact A1c (k1.cell (p:=⟨X.pl c,4,none⟩) p1 hN.ser)
  ·rw[serE,if_neg q];exact hN.keep hkp (fun e=>by rcases e with e|e;exact (a3 c hcI).1 e;exact q (h.inj hcI ha e)) (fun h8 e=>by rcases e with e|e;exact (a4 c hcI h8).1 e;exact a5 a ha c hcI h8 e.symm)
 ·obtain⟨R,t⟩:=h.tags;exact⟨R,t.m,t.g,t.w,t.p,t.f⟩
theorem E9.addWeak (h:E9 w B I nx X) {a:Nat} (ha:a∈I.P) (hal:a≤1000000000) {v':Value} (hk:A8 (fun k=>X.wv.ownBlock=some k) w w') (ht:I9 w' B 49 v' (wkV X I++[.pointer (some ⟨X.pl a,0,none⟩)])) (hn:∀ k,v'.ownBlock=some k→X.wv.ownBlock=some k∨w.heap.size≤k) :
  E9 (w'.setCell ⟨X.mb,1,none⟩ v') B (I.addWeak (D3 (a:Int))) nx {X with wv:=v'}∧A8 (ML I X) w (w'.setCell ⟨X.mb,1,none⟩ v'):=by
 obtain⟨a1,a2,a3,a4,a5,a6⟩:=h.apart;have n1:∀ k,v'.ownBlock=some k→k≠X.mb∧k≠X.G∧(∀ c∈I.P,X.pl c≠k∧(8≤B3 (A6 I.V c)→X.fl c≠k)):=fun k hk2=>by
  rcases hn k hk2 with q|q
  ·exact⟨(a2 k q).1,(a2 k q).2,fun c hc=>⟨(a3 c hc).2.2 k q,fun h8=>(a4 c hc h8).2.2 k q⟩⟩
  ·have o1:=(h.own (Or.inl rfl:ML I X X.mb)).2;have o2:=(h.own (Or.inr (Or.inl rfl):ML I X X.G)).2;refine⟨by omega,by omega,fun c hc=>⟨?_,fun h8=>?_⟩⟩
   ·have:=(h.own (Or.inr (Or.inr (Or.inr ⟨c,hc,Or.inl rfl⟩)):ML I X (X.pl c))).2;omega
   ·have:=(h.own (Or.inr (Or.inr (Or.inr ⟨c,hc,Or.inr ⟨h8,rfl⟩⟩)):ML I X (X.fl c))).2;omega
 have h1:A8 (fun k=>k=X.mb) w' (w'.setCell ⟨X.mb,1,none⟩ v'):=A4v _ _ _ _;have hm:∀ {o:Nat} {x:Value},o≠1→w.cell? ⟨X.mb,o,none⟩=some x→(w'.setCell ⟨X.mb,1,none⟩ v').cell? ⟨X.mb,o,none⟩=some x:=fun {o x} ho hx=>by
  rw[J4 (Ne.symm ho)];exact hk.cell (p:=⟨X.mb,o,none⟩) (fun e=>(a2 _ e).1 rfl) hx
 have hkk:A8 (fun k=>X.wv.ownBlock=some k∨k=X.mb) w (w'.setCell ⟨X.mb,1,none⟩ v'):=(hk.sub fun i e=>Or.inl e).trans (h1.sub fun i e=>Or.inr e);have np:∀ c∈I.P,¬(X.wv.ownBlock=some (X.pl c)∨X.pl c=X.mb):=fun c hc e=>by
  rcases e with e|e
  ·exact (a3 c hc).2.2 _ e rfl
  ·exact (a3 c hc).1 e
 have nf:∀ c∈I.P,8≤B3 (A6 I.V c)→¬(X.wv.ownBlock=some (X.fl c)∨X.fl c=X.mb):=fun c hc h8 e=>by
  rcases e with e|e
  ·exact (a4 c hc h8).2.2 _ e rfl
  ·exact (a4 c hc h8).1 e
 have ng:¬(X.wv.ownBlock=some X.G∨X.G=X.mb):=fun e=>by
  rcases e with e|e
  ·exact (a2 _ e).2 rfl
  ·exact a1 e.symm
 refine⟨⟨A3g (A0q hk (fun e=>(a2 _ e).1 rfl) h.mblk),hm (by omega) h.roots,?_,hm (by omega) h.next,A0q hkk ng h.gblk,fun i hi=>(h.root i hi).keep hkk ng,?_,fun c hc=>?_,h.low,?_⟩,hkk.sub fun i e=>by rcases e with e|e;exact Or.inr (Or.inr (Or.inl e));exact Or.inl e⟩
 ·exact A1c (hk.cell (p:=⟨X.mb,1,none⟩) (fun e=>(a2 _ e).1 rfl) h.weak)
 ·have e:wkV {X with wv:=v'} (I.addWeak (D3 (a:Int)))=wkV X I++[.pointer (some ⟨X.pl a,0,none⟩)]:=by
   unfold wkV;show (I.weak++[D3 (a:Int)]).map _=_;rw[List.map_append];simp only[List.map_cons,List.map_nil];rw[(A5a hal).1,Za]
  rw[e];exact ht.keep h1 fun g hg=>(n1 g hg).1
 ·have:=(h.node c hc).keep hkk (np c hc) (nf c hc);exact⟨this.blk,this.kind,this.flds,this.num,this.str,this.ser,this.fblk,this.fld⟩
 ·obtain⟨R,t⟩:=h.tags;refine⟨fun k=>if v'.ownBlock=some k then 2 else R k,?_,?_,fun k hk2=>?_,fun c hc=>?_,fun c hc h8=>?_⟩
  ·show (if v'.ownBlock=some X.mb then 2 else R X.mb)=0;rw[if_neg fun e=>(n1 _ e).1 rfl];exact t.m
  ·show (if v'.ownBlock=some X.G then 2 else R X.G)=1;rw[if_neg fun e=>(n1 _ e).2.1 rfl];exact t.g
  ·show (if v'.ownBlock=some k then 2 else R k)=2;rw[if_pos hk2]
  ·show (if v'.ownBlock=some (X.pl c) then 2 else R (X.pl c))=_;rw[if_neg fun e=>((n1 _ e).2.2 c hc).1 rfl];exact t.p c hc
  ·show (if v'.ownBlock=some (X.fl c) then 2 else R (X.fl c))=_;rw[if_neg fun e=>((n1 _ e).2.2 c hc).2 h8 rfl];exact t.f c hc h8
end
def A5x (n:Int):Int:=if n<2305843009213693952 then 4*n+1 else 4*n+18446744073709551617
theorem D5f (n:Int):S9 (A5x n)=3∧A1b (A5x n)=n∧(∀ pl,O7 pl (A5x n)=none)∧¬0≤B6 (A5x n):=by
 have h4:A5x n%4=1:=by unfold A5x;split<;>omega
 have hp:¬0≤B6 (A5x n):=by
  unfold B6 C7;rw[if_neg (by omega)];omega
 refine⟨?_,?_,fun pl=>if_neg hp,hp⟩
 ·unfold S9;rw[if_neg hp,if_pos h4]
 ·unfold A1b;rw[if_neg hp,if_pos h4];unfold A2l A5x;by_cases h:n<2305843009213693952
  ·rw[if_pos h,if_pos (by omega)];omega
  ·rw[if_neg h,if_neg (by omega)];omega
theorem B4y {n:Int} (h:U2 n=true):S9 (P6 n)=3∧A1b (P6 n)=n∧(∀ pl,O7 pl (P6 n)=none):=by
 have h4:P6 n%4=1:=(B0o n).2.2;have hp:¬0≤B6 (P6 n):=by
  unfold B6 C7;rw[if_neg (by omega)];omega
 refine⟨?_,?_,fun pl=>if_neg hp⟩
 ·unfold S9;rw[if_neg hp,if_pos h4]
 ·unfold A1b;rw[if_neg hp,if_pos h4];exact E8e n h
theorem D8d {b:Int} (h:0≤b∧b≤2):S9 (P3 b)=b∧A1b (P3 b)=0∧(∀ pl,O7 pl (P3 b)=none):=by
 have e:P3 b=4*b+2:=by unfold P3;omega
 have hp:¬0≤B6 (P3 b):=by
  unfold B6 C7;rw[e,if_neg (by omega)];omega
 refine⟨?_,?_,fun pl=>if_neg hp⟩
 ·unfold S9;rw[if_neg hp,e,if_neg (by omega)];omega
 ·unfold A1b;rw[if_neg hp,e,if_neg (by omega)]
theorem B3c {a:Nat} (h:a≤1000000000) (pl:Nat→Nat):S9 (D3 (a:Int))=4∧A1b (D3 (a:Int))=0∧O7 pl (D3 (a:Int))=some ⟨pl a,0,none⟩:=by
 have hp:=(A5a h).1;have h0:0≤B6 (D3 (a:Int)):=by rw[hp];omega
 refine⟨if_pos h0,if_pos h0,?_⟩;unfold O7;rw[if_pos h0,hp,Za]
theorem B8d {w:World} {b o:Nat} {k n:Int} {p:Option Addr} (ob:Obj) (hb:b<w.heap.size):A1m (w.alloc ob) b o k n p=(A1m w b o k n p).alloc ob:=by
 unfold A1m;rw[Zi _ _ _ _ hb,Zi _ _ _ _ (by simpa [go_sem] using hb),Zi _ _ _ _ (by simpa [go_sem] using hb)]
def Y4 (w:World) (B:Nat) (I:B4) (X:Q7) (J:B4) (ny n:Int) (e:Ending) (w':World):Prop :=
 e=.returned (.int .i64 n)∧∃ X',X'.mb=X.mb∧E9 w' B J ny X'∧A8 (ML I X) w w'∧∀ k,ML J X' k→ML I X k∨w.heap.size≤k
section
variable {w w' wa wb:World} {B:Nat} {nx k n:Int} {p:Option Addr} {X:Q7} {I:B4}
theorem B8v (X:Q7) (I:B4):(wkV X I).length=I.weak.length:=by simp[wkV]
theorem E9.wkv (h:E9 w B I nx X):∃ a c,X.wv=.slice a I.weak.length c:=by
 rw[←B8v X I];rcases h.wk with⟨e,h2⟩|⟨g,off,cap,cur,e,_⟩
 ·exact⟨none,0,by rw[e,h2];rfl⟩
 ·exact⟨_,_,e⟩
theorem B1q (hM:E9 w B I nx X) (hx:A0 w wa) {r:Nat} (hr:r<I.roots.length) {v:Int} (hk:S9 v=k) (hn:A1b v=n) (hp:O7 X.pl v=p) (hy:A0 (A1m wa X.G (r*3) k n p) w'):Y4 w B I X (I.setR r v) nx 0 (.returned (.int .i64 0)) w':=by
 obtain⟨h1,h2⟩:=(hM.ext hx).setR hr hk hn hp;exact⟨rfl,X,rfl,h1.ext hy,((A8.of_ext hx).trans h2).trans (A8.of_ext hy),fun k q=>Or.inl q⟩
theorem C5b {R:List Int} {r:Nat} (hM:E9 wa B (I.wR R) nx X) (hkp:A8 (ML I X) w wa) (hrt:∀ i,i<R.length→P2 I.P (R.getD i 0)∨¬0≤B6 (R.getD i 0)) (hset:R.set r (D3 (I.V.length:Int))=I.roots.set r (D3 (I.V.length:Int))) (hr:r<R.length)
  (hw:D5 I) (hl:I.V.length≤1000000000) (hx:A0 wa wb) {kind:Int} {us:List Int} {p f:Nat} (hp:wa.heap.size≤p) (hf:8≤kind→wa.heap.size≤f∧f≠p) (hk:0≤kind∧kind≤255) (hz:us.length≤4096)
  (hn:A3f wb ((I.wR R).new kind us).V (X.new I.V.length p f) I.V.length 0) (hy:A0 (A1m wb X.G (r*3) 4 0 (some ⟨p,0,none⟩)) w'):Y4 w B I X ((I.new kind us).setR r (D3 (I.V.length:Int))) nx 0 (.returned (.int .i64 0)) w':=by
 have hB:B≤wa.heap.size:=by have:=hM.own (Or.inl rfl);omega
 have h1:=E9.newR hM hrt hw hl hx hp hB hf hk hz hn;obtain⟨c1,c2,c3⟩:=B3c hl (X.new I.V.length p f).pl;have hpn:(X.new I.V.length p f).pl I.V.length=p:=if_pos rfl;rw[hpn] at c3;obtain⟨h2,h3⟩:=h1.setR (r:=r) hr c1 c2 c3;have e:((I.wR R).new kind us).setR r (D3 (I.V.length:Int))=(I.new kind us).setR r (D3 (I.V.length:Int)):=by
  show (⟨_,_,R.set r _,_,_⟩:B4)=⟨_,_,I.roots.set r _,_,_⟩;rw[hset];rfl
 rw[e] at h2;have hG:A8 (ML I X) wb (A1m wb X.G (r*3) 4 0 (some ⟨p,0,none⟩)):=C2p.sub fun i q=>Or.inr (Or.inl q)
 refine⟨rfl,X.new I.V.length p f,rfl,h2.ext hy,((hkp.trans (A8.of_ext hx)).trans hG).trans (A8.of_ext hy),fun k q=>?_⟩;have hlt:∀ a∈I.P,a<I.V.length:=fun a ha=>by have:=hw.dom a ha;omega
 have hsz:=hkp.size;rcases q with q|q|q|⟨a,ha,q⟩
 ·exact Or.inl (Or.inl q)
 ·exact Or.inl (Or.inr (Or.inl q))
 ·exact Or.inl (Or.inr (Or.inr (Or.inl q)))
 ·rcases Zd.1 (show a∈I.P++[I.V.length] from ha) with ha|ha
  ·have g1:(X.new I.V.length p f).pl a=X.pl a:=if_neg (by have:=hlt a ha;omega);have g2:(X.new I.V.length p f).fl a=X.fl a:=if_neg (by have:=hlt a ha;omega);have g3:A6 ((I.new kind us).setR r (D3 (I.V.length:Int))).V a=A6 I.V a:=A8m I kind us (hlt a ha);rw[g1,g2,g3] at q;exact Or.inl (Or.inr (Or.inr (Or.inr ⟨a,ha,q⟩)))
  ·obtain rfl:=Zf.1 ha;have g2:(X.new I.V.length p f).fl I.V.length=f:=if_pos rfl;have g3:B3 (A6 ((I.new kind us).setR r (D3 (I.V.length:Int))).V I.V.length)=kind:=by
    rw[show A6 ((I.new kind us).setR r (D3 (I.V.length:Int))).V I.V.length=J7 kind 0 0 us.length from A3a I kind us];exact (A1t kind 0 0 (us.length:Int) hk (by omega) (by omega) ⟨by omega,by omega⟩).2.1
   rw[hpn,g2,g3] at q;right;rcases q with q|⟨h8,q⟩
   ·omega
   ·have:=hf h8;omega
theorem C5a (hM:E9 w B I nx X) {r:Nat} (hr:r<I.roots.length) (hw:D5 I) (hl:I.V.length≤1000000000) (hx:A0 w wb) {kind:Int} {us:List Int} {p f:Nat} (hp:w.heap.size≤p) (hf:8≤kind→w.heap.size≤f∧f≠p) (hk:0≤kind∧kind≤255) (hz:us.length≤4096)
  (hn:A3f wb (I.new kind us).V (X.new I.V.length p f) I.V.length 0) (hy:A0 (A1m wb X.G (r*3) 4 0 (some ⟨p,0,none⟩)) w'):Y4 w B I X ((I.new kind us).setR r (D3 (I.V.length:Int))) nx 0 (.returned (.int .i64 0)) w' :=
 C5b (R:=I.roots) hM (A8.refl _ _) (fun i hi=>Or.inl (hw.root hi)) rfl hr hw hl hx hp hf hk hz hn hy
theorem C1u (I:B4) (kind:Int) (us:List Int) (hk:0≤kind∧kind≤255) (hz:us.length≤4096):B3 (A6 (I.new kind us).V I.V.length)=kind∧A9 (I.new kind us).V I.V.length=us.length:=by
 obtain⟨d1,d2,d3,d4,d5⟩:=A1t kind 0 0 (us.length:Int) hk (by omega) (by omega) ⟨by omega,by omega⟩;unfold A9;rw[A3a];exact⟨d2,by rw[d5];omega⟩
theorem E9x (hw:D5 I) {a j:Nat} {v:Int} (ha:a∈I.P) (hj:j<A9 I.V a) {c:Nat} (hc:c∈I.P):A6 (I.put (a+1+j) v).V c=A6 I.V c:=by
 have ne:c≠a+1+j:=fun e=>by
  have hda:=hw.dom a ha;rcases Nat.lt_or_ge a c with q|q
  ·have:=hw.apart a ha c hc q;omega
  ·omega
 exact A2r _ _ _ _ ne
theorem D8w (hM:E9 w B I nx X) (hw:D5 I) {a j:Nat} (ha:a∈I.P) (h8:8≤B3 (A6 I.V a)) (hj:j<A9 I.V a) {v:Int} (hk:S9 v=k) (hn:A1b v=n) (hp:O7 X.pl v=p) (hy:A0 (A1m w (X.fl a) (j*3) k n p) w'):Y4 w B I X (I.put (a+1+j) v) nx 0 (.returned (.int .i64 0)) w':=by
 obtain⟨h1,h2⟩:=hM.put hw ha h8 hj hk hn hp;refine⟨rfl,X,rfl,h1.ext hy,h2.trans (A8.of_ext hy),fun q hq=>Or.inl ?_⟩;rcases hq with q1|q1|q1|⟨c,hc,q1⟩
 ·exact Or.inl q1
 ·exact Or.inr (Or.inl q1)
 ·exact Or.inr (Or.inr (Or.inl q1))
 ·refine Or.inr (Or.inr (Or.inr ⟨c,hc,?_⟩))
  rwa [E9x hw ha hj hc] at q1
theorem D8x (hM:E9 w B I nx X) (hw:D5 I) (hl:I.V.length≤1000000000) {a:Nat} (ha:a∈I.P) (hs:A0s I (a:Int)=none) (hy:A0 ((w.setCell ⟨X.mb,2,none⟩ (.int .i64 nx)).setCell ⟨X.pl a,4,none⟩ (.int .i64 nx)) w'):Y4 w B I X (I.addId (D3 (a:Int)) nx) (nx+1) nx (.returned (.int .i64 nx)) w':=by
 obtain⟨h1,h2⟩:=hM.serial hw hl ha hs;exact⟨rfl,X,rfl,h1.ext hy,h2.trans (A8.of_ext hy),fun q hq=>Or.inl hq⟩
theorem D9b (hM:E9 w B I nx X) (hx:A0 w wa) {a:Nat} (ha:a∈I.P) (hal:a≤1000000000) {v':Value} (hg:wa.grownBy wb X.wv.ownBlock) (ht:I9 wb B 49 v' (wkV X I++[.pointer (some ⟨X.pl a,0,none⟩)])) (hn:∀ k,v'.ownBlock=some k→X.wv.ownBlock=some k∨wa.heap.size≤k) (hy:A0 (wb.setCell ⟨X.mb,1,none⟩ v') w') :
  Y4 w B I X (I.addWeak (D3 (a:Int))) nx I.weak.length (.returned (.int .i64 (I.weak.length:Int))) w':=by
 have hk:A8 (fun k=>X.wv.ownBlock=some k) wa wb:=A8.of_grown hg fun k q=>Or.inl q
 obtain⟨h1,h2⟩:=(hM.ext hx).addWeak ha hal hk ht hn;refine⟨rfl,{X with wv:=v'},rfl,h1.ext hy,((A8.of_ext hx).trans h2).trans (A8.of_ext hy),fun q hq=>?_⟩;rcases hq with q1|q1|q1|q1
 ·exact Or.inl (Or.inl q1)
 ·exact Or.inl (Or.inr (Or.inl q1))
 ·rcases hn q q1 with q2|q2
  ·exact Or.inl (Or.inr (Or.inr (Or.inl q2)))
  ·right;have:=hx.size;omega
 ·exact Or.inl (Or.inr (Or.inr (Or.inr q1)))
theorem E7x {I:B4} {p f:Nat} {v:Int} {t:TypeId} (hv:F0 v) (hb:w.heap[p]?=some (.cells #[.int .i64 1,.slice none 0 0,.int .i64 v,.string ⟨#[]⟩,.int .i64 0] t (0,0))):A3f w (I.new 1 [IntKind.u64.wrap v]).V (X.new I.V.length p f) I.V.length 0:=by
 obtain⟨k1,k2⟩:=C1u I 1 [IntKind.u64.wrap v] (by omega) (by simp);have hpn:(X.new I.V.length p f).pl I.V.length=p:=if_pos rfl;have hlong:Z5 (I.new 1 [IntKind.u64.wrap v]).V I.V.length=v:=by
  unfold Z5;rw[show I.V.length+1=I.V.length+1+0 from rfl,A6j];exact F8e v hv
 refine⟨⟨_,_,by rw[hpn];exact hb⟩,?_,?_,?_,?_,?_,fun h=>by rw[k1] at h;omega,fun h=>by rw[k1] at h;omega⟩
 ·rw[hpn,k1,World.cell?,hb];rfl
 ·rw[hpn,World.cell?,hb];unfold A2f;rw[k1];rfl
 ·rw[hpn,k1,hlong,World.cell?,hb];rfl
 ·rw[hpn,k1,World.cell?,hb];rfl
 ·rw[hpn,World.cell?,hb];rfl
theorem E7y {I:B4} {p f:Nat} {s:ByteArray} {t:TypeId} (hs:s.size≤2000) (hb:w.heap[p]?=some (.cells #[.int .i64 2,.slice none 0 0,.int .i64 0,.string s,.int .i64 0] t (0,0))):A3f w (I.new 2 ((s.size:Int)::T9 s)).V (X.new I.V.length p f) I.V.length 0:=by
 have hll:=A9u s;obtain⟨k1,k2⟩:=C1u I 2 ((s.size:Int)::T9 s) (by omega) (by simp[hll];omega);have hpn:(X.new I.V.length p f).pl I.V.length=p:=if_pos rfl;refine⟨⟨_,_,by rw[hpn];exact hb⟩,?_,?_,?_,?_,?_,fun h=>by rw[k1] at h;omega,fun h=>by rw[k1] at h;omega⟩
 ·rw[hpn,k1,World.cell?,hb];rfl
 ·rw[hpn,World.cell?,hb];unfold A2f;rw[k1];rfl
 ·rw[hpn,k1,World.cell?,hb];rfl
 ·rw[hpn,k1,F7a I s hs,World.cell?,hb];rfl
 ·rw[hpn,World.cell?,hb];rfl
theorem C1v {I:B4} {p f:Nat} {kind:Int} {m:Nat} {t:TypeId} (hk:8≤kind∧kind≤255) (hm:m≤4096) (hb:w.heap[p]?=some (.cells #[.int .i64 kind,.slice (some ⟨f,0,none⟩) m m,.int .i64 0,.string ⟨#[]⟩,.int .i64 0] t (0,0)))
  (hfb:∃ cur t,w.heap[f]?=some (.cells cur t (0,0))) (hc:∀ j,j<m→w.cell? ⟨f,j*3,none⟩=some (.int .i64 0)∧w.cell? ⟨f,j*3+1,none⟩=some (.int .i64 0)∧w.cell? ⟨f,j*3+2,none⟩=some (.pointer none)):A3f w (I.new kind (List.replicate m 2)).V (X.new I.V.length p f) I.V.length 0:=by
 obtain⟨k1,k2⟩:=C1u I kind (List.replicate m 2) (by omega) (by simp;omega);rw[List.length_replicate] at k2;have hpn:(X.new I.V.length p f).pl I.V.length=p:=if_pos rfl;have hfn:(X.new I.V.length p f).fl I.V.length=f:=if_pos rfl;refine⟨⟨_,_,by rw[hpn];exact hb⟩,?_,?_,?_,?_,?_,fun h=>by rw[hfn];exact hfb,fun h j hj=>?_⟩
 ·rw[hpn,k1,World.cell?,hb];rfl
 ·rw[hpn,World.cell?,hb];unfold A2f;rw[k1,if_neg (by omega),hfn,k2];rfl
 ·rw[hpn,k1,if_neg (by omega),World.cell?,hb];rfl
 ·rw[hpn,k1,if_neg (by omega),World.cell?,hb];rfl
 ·rw[hpn,World.cell?,hb];rfl
 ·rw[k2] at hj;rw[hfn,A6j,Zb,List.getElem?_replicate,if_pos hj];obtain⟨q1,q2,q3⟩:=hc j hj;exact⟨q1,q2,q3⟩
end
end Go.Proofs.YtelhoppfidibiaaGreatDoor
