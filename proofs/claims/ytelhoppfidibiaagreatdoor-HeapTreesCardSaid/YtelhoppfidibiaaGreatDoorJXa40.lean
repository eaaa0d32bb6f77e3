/- The law HeapTrees: the closed facts of its row, each by itself. -/
import Derived.Test.YtelhoppfidibiaaGreatDoorJXa38
set_option linter.unusedSimpArgs false
set_option linter.unusedVariables false
set_option maxHeartbeats 40000000
set_option maxRecDepth 100000
open Bool renaming and_eq_true→Za
open List renaming foldl_cons→Zb,length_set→Zc
open Nat renaming le_refl→Zd
open Go.Proofs.Tryz renaming prog→Ze
namespace Go.Proofs.YtelhoppfidibiaaGreatDoor.HeapTrees
open Go.ChangeShapes Go.WideShapes Go.ChangeAt Go.RowKit
theorem closed:joinedFacts Ze 6 Tryz.f6 (OpenSpec.ofChange Rows.heapTreesSpec).bare Rows.heapTreesRow=true:=by
 unfold joinedFacts
 repeat' (with_reducible refine Bool.and_eq_true_iff.2 ⟨?_,?_⟩)
 all_goals as_aux_lemma=>kernel_rfl
end Go.Proofs.YtelhoppfidibiaaGreatDoor.HeapTrees
namespace Go.Proofs.YtelhoppfidibiaaGreatDoor
open Go.RowKit
def tx (a b c n:Int):E4:=⟨⟨#[]⟩,a,b,c,n,⟨#[]⟩⟩
theorem D5.words {I:B4} (h:D5 I):(I.P.map fun a=>1+A9 I.V a).sum≤I.V.length:=by
 have e:(I.P.map fun a=>1+A9 I.V a).sum=(I.P.flatMap fun a=>List.range' a (1+A9 I.V a)).length:=by
  rw[List.length_flatMap];simp
 rw[e];have:=B2a (I.P.flatMap fun a=>List.range' a (1+A9 I.V a)) (List.range I.V.length) ?_ fun x hx=>?_
 ·simpa using this
 ·unfold List.Nodup;rw[List.pairwise_flatMap];refine⟨fun a _=>List.nodup_range',?_⟩;have hn:I.P.Pairwise fun a b=>a∈I.P∧b∈I.P∧a≠b:=by
   have h1:I.P.Pairwise fun a b=>a≠b:=h.nodup
   exact List.Pairwise.imp_of_mem (fun {a b} ha hb q=>⟨ha,hb,q⟩) h1
  refine hn.imp fun {a b} ⟨ha,hb,q⟩ x hx y hy e=>?_
  rw[List.mem_range'_1] at hx hy;rcases Nat.lt_or_gt_of_ne q with q|q
  ·have:=h.apart a ha b hb q;omega
  ·have:=h.apart b hb a ha q;omega
 ·obtain⟨a,ha,hx⟩:=List.mem_flatMap.1 hx;rw[List.mem_range'_1] at hx;exact List.mem_range.2 (by have:=h.dom a ha;omega)
def T8 (I:B4) (ak:AK) (x:E4):Bool:=decide (I5 I ak x=0)&&(decide (I.V.length≤900)&&decide (U5 ak x≤4))
def st (ak:AK) (x:E4) (I:B4):B4:=Z8 I ak x false
theorem A9t {I:B4} {ak:AK} {x:E4} (h:T8 I ak x=true) (hw:D5 I):I5 I ak x=0∧I.V.length≤900∧(((I.P.map fun a=>1+A9 I.V a).sum:Nat):Int)+U5 ak x≤1000:=by
 unfold T8 at h;simp only[Za,decide_eq_true_eq] at h;have:=hw.words;exact⟨h.1,h.2.1,by omega⟩
section
variable {I I':B4} {M M':A7} {nx nx' c n:Int} {is:Bool} {ak:AK} {x:E4}
theorem A5q.goesT (h:A5q I nx 1000 M ak x c n is I' nx' M') (hH:Holds I M) (hI:D6 M nx) (hw:D5 I) (hs:T8 I ak x=true) (hk:ak≠.look):c=0∧(I',nx')=doN I nx ak x false∧Holds I' M':=by
 obtain⟨he,h9,hq⟩:=A9t hs hw;have hi:=h.plain hk;subst hi;obtain⟨D,f,hR⟩:=hH;have hle:=hR.live_le (L8 hI.chk).1;rcases h.res with⟨r1,-,-,r4⟩|⟨r1,-,-,-,-,⟨-,-,r⟩|⟨-,r⟩⟩
 ·exact⟨r1,r4,h.holds⟩
 ·omega
 ·exact absurd (r.symm.trans he) r1
end
def A6e:Nat→B4→B4
 | 0,I=>st .const (tx 0 0 0 0) I
 | d+1,I=>st .put (tx ((d+1:Nat):Int) 2 (d:Int) 0) (st .int (tx (d:Int) 0 0 ((d+1:Nat):Int)) (st .put (tx ((d+1:Nat):Int) 1 (d:Int) 0) (A6e d (st .put (tx ((d+1:Nat):Int) 0 (d:Int) 0) (A6e d (st .make (tx ((d+1:Nat):Int) 8 3 0) I))))))
def gr1 (d:Nat) (I:B4):B4:=st .make (tx ((d+1:Nat):Int) 8 3 0) I
def gr2 (d:Nat) (I:B4):B4:=A6e d (gr1 d I)
def gr3 (d:Nat) (I:B4):B4:=st .put (tx ((d+1:Nat):Int) 0 (d:Int) 0) (gr2 d I)
def gr4 (d:Nat) (I:B4):B4:=A6e d (gr3 d I)
def gr5 (d:Nat) (I:B4):B4:=st .put (tx ((d+1:Nat):Int) 1 (d:Int) 0) (gr4 d I)
def gr6 (d:Nat) (I:B4):B4:=st .int (tx (d:Int) 0 0 ((d+1:Nat):Int)) (gr5 d I)
def A8f:Nat→B4→Bool
 | 0,I=>T8 I .const (tx 0 0 0 0)
 | d+1,I=>T8 I .make (tx ((d+1:Nat):Int) 8 3 0)&&(A8f d (gr1 d I)&&(T8 (gr2 d I) .put (tx ((d+1:Nat):Int) 0 (d:Int) 0)&&(A8f d (gr3 d I)&&(T8 (gr4 d I) .put (tx ((d+1:Nat):Int) 1 (d:Int) 0)&&(T8 (gr5 d I) .int (tx (d:Int) 0 0 ((d+1:Nat):Int))&&T8 (gr6 d I) .put (tx ((d+1:Nat):Int) 2 (d:Int) 0))))))
def trG (d:Nat):B4:=A6e d (B4.fresh (d+2))
def trC (d:Nat):Nat→B4
 | 0=>trG d
 | r+1=>if r=d then trC d r else st .const (tx (r:Int) 0 0 0) (trC d r)
def trK (d:Nat):B4:=st .copy (tx 0 (d:Int) 0 0) (trC d (d+2))
def trJ (d:Nat):B4:=st .const (tx (d:Int) 0 0 0) (trK d)
def O3 (I:B4):B4:=I.new 8 (List.replicate 3 2)
def Z2:Nat→B4→B4
 | 0,I=>I
 | 1,I=>(O3 I).put (I.V.length+1+2) (P6 1)
 | d+2,I=>((Z2 (d+1) ((Z2 (d+1) (O3 I)).put (I.V.length+1+0) (D3 (((O3 I).V.length:Nat):Int)))).put (I.V.length+1+1) (D3 (((Z2 (d+1) (O3 I)).V.length:Nat):Int))).put (I.V.length+1+2) (P6 ((d+2:Nat):Int))
def Q5 (d:Nat):B4:=(Z2 d (B4.fresh 1)).setR 0 (D3 0)
def trB (d:Nat):Bool:=A8f d (B4.fresh (d+2))&&((List.range (d+2)).all (fun r=>decide (r=d)||T8 (trC d r) .const (tx (r:Int) 0 0 0))&&(T8 (trC d (d+2)) .copy (tx 0 (d:Int) 0 0)&&(T8 (trK d) .const (tx (d:Int) 0 0 0) &&
 (decide ((trJ d).V=(Q5 d).V)&&(decide ((trJ d).P=(Q5 d).P)&&(decide ((trJ d).roots=D3 0::List.replicate (d+1) 2)&&(decide ((Q5 d).roots=[D3 0])&&(((trJ d).weak.isEmpty&&(trJ d).ids.isEmpty)&&(Q5 d).P.all fun a=>decide (A6 (Q5 d).V a=J7 8 0 0 3)))))))))
theorem F7r:trB 1=true∧trB 2=true∧trB 3=true∧trB 4=true∧trB 5=true∧trB 6=true:=by
 refine⟨?_,?_,?_,?_,?_,?_⟩<;>decide +kernel
theorem F7s {d:Nat} (h1:1≤d) (h6:d≤6):trB d=true:=by
 obtain⟨a1,a2,a3,a4,a5,a6⟩:=F7r;have h:d=1∨d=2∨d=3∨d=4∨d=5∨d=6:=by omega
 rcases h with rfl|rfl|rfl|rfl|rfl|rfl
 ·exact a1
 ·exact a2
 ·exact a3
 ·exact a4
 ·exact a5
 ·exact a6
structure B9i (d:Nat):Prop where
 grow:A8f d (B4.fresh (d+2))=true
 const:∀ r,r<d+2→r≠d→T8 (trC d r) .const (tx (r:Int) 0 0 0)=true
 copy:T8 (trC d (d+2)) .copy (tx 0 (d:Int) 0 0)=true
 last:T8 (trK d) .const (tx (d:Int) 0 0 0)=true
 V:(trJ d).V=(Q5 d).V
 rJ:(trJ d).roots=D3 0::List.replicate (d+1) 2
 rT:(Q5 d).roots=[D3 0]
 wk:(trJ d).weak=[]
 ids:(trJ d).ids=[]
 hd:∀ a∈(Q5 d).P,A6 (Q5 d).V a=J7 8 0 0 3
theorem F7t {d:Nat} (h1:1≤d) (h6:d≤6):B9i d:=by
 have h:=F7s h1 h6;unfold trB at h;simp only[Za,decide_eq_true_eq] at h;obtain⟨g1,g2,g3,g4,g5,g6,g7,g8,⟨g10,g11⟩,g9⟩:=h;refine⟨g1,fun r hr hd=>?_,g3,g4,g5,g7,g8,List.isEmpty_iff.1 g10,List.isEmpty_iff.1 g11,fun a ha=>of_decide_eq_true (List.all_eq_true.1 g9 a ha)⟩;have:=List.all_eq_true.1 g2 r (List.mem_range.2 hr);rw[Bool.or_eq_true,decide_eq_true_eq] at this;exact this.resolve_left hd
def trA:ByteArray:=⟨#[114,111,111,116,32,64,48,10]⟩
def trN:ByteArray:=⟨#[114,111,111,116,32,110,111,110,101,10]⟩
def nnS:Nat→ByteArray
 | 0=>⟨#[]⟩
 | k+1=>trN++nnS k
theorem B9m (a:ByteArray):a++(⟨#[]⟩:ByteArray)=a:=by
 apply ByteArray.ext;simp
theorem B0h (a:ByteArray):(⟨#[]⟩:ByteArray)++a=a:=by
 apply ByteArray.ext;simp
theorem A4b (a b c:ByteArray):(a++b)++c=a++(b++c):=by
 apply ByteArray.ext;simp
theorem C4b (W:List Int) (l:List Ob) (x:Ob) (out:ByteArray):Q9 W l x out=out++Q9 W l x ⟨#[]⟩:=by
 have hf:∀ (k:Int) (us:List Int) (o:ByteArray),A1f l k us o=o++A1f l k us ⟨#[]⟩:=by
  intro k us;unfold A1f
  induction us with
  | nil=>intro o;exact (B9m o).symm
  | cons u us ih =>
   intro o;rw[Zb,Zb,ih (A1e l k o u),ih (A1e l k ⟨#[]⟩ u)];have e:A1e l k o u=o++A1e l k ⟨#[]⟩ u:=by
    unfold A1e
    split
    ·rw[B0h,A4b]
    ·rw[B0h,A4b]
   rw[e,A4b]
 unfold Q9
 split
 ·rw[B0h,A4b]
 ·split
  ·rw[B0h,A4b]
  ·exact hf _ _ out
theorem E1z (i:Nat) (k:Int) (out:ByteArray):A0f i k out=out++A0f i k ⟨#[]⟩:=by
 unfold A0f;rw[B0h,A4b,A4b,A4b]
theorem C2a (W:List Int) (l:List Ob):∀ (xs:List Ob) (i:Nat) (out:ByteArray),V6 W l i xs out=out++V6 W l i xs ⟨#[]⟩
 | [],i,out=>(B9m out).symm
 | x::xs,i,out=>by
  show V6 W l (i+1) xs _=out++V6 W l (i+1) xs _;rw[C2a W l xs (i+1) (Q9 W l x (A0f i (B3 x.w) out)++⟨#[10]⟩),C2a W l xs (i+1) (Q9 W l x (A0f i (B3 x.w) ⟨#[]⟩)++⟨#[10]⟩),C4b W l x (A0f i (B3 x.w) out),C4b W l x (A0f i (B3 x.w) ⟨#[]⟩),E1z i (B3 x.w) out];simp only[A4b]
theorem D1d (l:List Ob):∀ (k:Nat) (out:ByteArray),A1l l (List.replicate k 2) out=out++nnS k
 | 0,out=>(B9m out).symm
 | k+1,out=>by
  rw[List.replicate_succ];show A1l l (List.replicate k 2) (A2p l out 2)=_;rw[D1d l k];have e:A2p l out 2=out++trN:=by
   show ((out++_)++B3m 0)++_=_;rw[A4b,A4b];rfl
  rw[e,A4b];rfl
theorem C4p (W:List Int):∀ (k:Nat) (out:List Ob),M8 W out (List.replicate k 2)=out
 | 0,out=>rfl
 | k+1,out=>by
  rw[List.replicate_succ];show M8 W (T5 W out 2) (List.replicate k 2)=out;rw[C4p W k];unfold T5;rw[if_neg (by intro h;have:=h.1;revert this;decide)]
def D0z (V:List Int):ByteArray:=V6 V (reachG V V.length 0 [D4 V 0]) 0 (reachG V V.length 0 [D4 V 0]) ⟨#[]⟩
theorem C2s {I:B4} {k:Nat} (h:I.roots=D3 0::List.replicate k 2):A2q I=trA++(nnS k++D0z I.V):=by
 have hc:M8 I.V [] I.roots=[D4 I.V 0]:=by
  rw[h];show M8 I.V (T5 I.V [] (D3 0)) (List.replicate k 2)=_;rw[C4p];rfl
 have hr:K4 I=reachG I.V I.V.length 0 [D4 I.V 0]:=by unfold K4;rw[hc]
 unfold A2q D0z;rw[hr];obtain⟨t,ht⟩:=B4t I.V I.V.length 0 [D4 I.V 0];generalize reachG I.V I.V.length 0 [D4 I.V 0]=l at ht ⊢;have ho:L9 l (B6 (D3 0))=0:=by
  rw[ht];rfl
 have e:A2p l ⟨#[]⟩ (D3 0)=trA:=by
  unfold A2p T4;rw[ho];decide +kernel
 rw[h,C2a];show A1l l (List.replicate k 2) (A2p l ⟨#[]⟩ (D3 0))++_=_;rw[D1d,e,A4b]
def A4a (s:ByteArray):Nat→ByteArray
 | 0=>s
 | k+1=>(trA++trN)++(A4a s k).extract 8 (A4a s k).size
theorem D5m (r:ByteArray):(trA++r).extract 8 (trA++r).size=r:=by
 apply ByteArray.ext;simp[trA];right;show r.size≤8+r.size-8;omega
theorem D3d (R:ByteArray):∀ k,A4a (trA++R) k=trA++(nnS k++R)
 | 0=>by show _=trA++(_++R);rw[show nnS 0=⟨#[]⟩ from rfl,B0h];rfl
 | k+1=>by
  show (trA++trN)++(A4a (trA++R) k).extract 8 (A4a (trA++R) k).size=_;rw[D3d R k,D5m,A4b];congr 1
theorem F7v {d:Nat} (h:B9i d):A2q (trJ d)=A4a (A2q (Q5 d)) (d+1):=by
 rw[C2s h.rJ,C2s (k:=0) h.rT,show nnS 0=⟨#[]⟩ from rfl,B0h,D3d,h.V]
structure A0n (I J:B4):Prop where
 len:I.V.length≤J.V.length
 old:∀ i,i<I.V.length→A6 J.V i=A6 I.V i
 P:∀ a∈I.P,a∈J.P
 roots:J.roots=I.roots
theorem A0n.refl (I:B4):A0n I I:=⟨Zd _,fun _ _=>rfl,fun _ h=>h,rfl⟩
theorem A0n.trans {I J K:B4} (h:A0n I J) (k:A0n J K):A0n I K:=⟨Nat.le_trans h.len k.len,fun i hi=>(k.old i (Nat.lt_of_lt_of_le hi h.len)).trans (h.old i hi),fun a ha=>k.P a (h.P a ha),k.roots.trans h.roots⟩
theorem A0n.new (I:B4):A0n I (O3 I):=⟨by simp[O3,B4.new],fun i hi=>A8m I 8 _ hi,fun a ha=>List.mem_append.2 (Or.inl ha),rfl⟩
theorem A0n.put {I J:B4} (h:A0n I J) {i:Nat} (hi:I.V.length≤i) (u:Int):A0n I (J.put i u):=⟨by show _≤(J.V.set i u).length;rw[Zc];exact h.len,fun k hk=>(A2r _ _ _ _ (by omega)).trans (h.old k hk),h.P,h.roots⟩
theorem C3e (I:B4):I.V.length∈(O3 I).P:=List.mem_append.2 (Or.inr (by simp))
theorem B8m (I:B4):(O3 I).V.length=I.V.length+4:=by simp[O3,B4.new]
structure U9 (I J:B4):Prop where
 k:A0n I J
 here:I.V.length∈J.P
 hd:A6 J.V I.V.length=J7 8 0 0 3
theorem U9.of (I:B4):U9 I (O3 I):=⟨A0n.new I,C3e I,A3a I 8 (List.replicate 3 2)⟩
theorem U9.then_ {I J K:B4} (h:U9 I J) (hl:I.V.length<J.V.length) (k:A0n J K):U9 I K:=⟨h.k.trans k,k.P _ h.here,(k.old _ hl).trans h.hd⟩
theorem U9.put {I J:B4} (h:U9 I J) (j:Nat) (u:Int):U9 I (J.put (I.V.length+1+j) u):=⟨h.k.put (by omega) u,h.here,(A2r _ _ _ _ (by omega)).trans h.hd⟩
theorem U9.sz {I J:B4} (h:U9 I J):8≤B3 (A6 J.V I.V.length)∧A9 J.V I.V.length=3∧D2 (B3 (A6 J.V I.V.length))=false:=by
 have e1:B3 (J7 8 0 0 3)=8:=by decide
 have e2:B5 (J7 8 0 0 3)=3:=by decide
 unfold A9;rw[h.hd,e1,e2];exact⟨by omega,rfl,by decide⟩
theorem C3d:∀ (d:Nat) (I:B4),(Z2 d I).V.length+4=I.V.length+4*2^d
 | 0,I=>by show I.V.length+4=_;omega
 | 1,I=>by
  show ((O3 I).V.set _ _).length+4=_;rw[Zc,B8m]
 | d+2,I=>by
  have h1:=C3d (d+1) (O3 I);rw[B8m] at h1;unfold Z2;have q:∀ (J:B4) i u,(J.put i u).V.length=J.V.length:=fun J i u=>Zc ..
  rw[q,q];have h2:=C3d (d+1) ((Z2 (d+1) (O3 I)).put (I.V.length+1+0) (D3 (((O3 I).V.length:Nat):Int)));rw[q] at h2;rw[Nat.pow_succ 2 (d+1)];omega
theorem A7k:∀ (d:Nat) (I:B4),A0n I (Z2 d I)
 | 0,I=>A0n.refl I
 | 1,I=>(A0n.new I).put (by omega) _
 | d+2,I=>by
  unfold Z2;refine A0n.put (A0n.put ?_ (by omega) _) (by omega) _;exact (((A0n.new I).trans (A7k (d+1) (O3 I))).put (by omega) _).trans (A7k (d+1) _)
theorem B5f (d:Nat) (I:B4):I.V.length∈(Z2 (d+1) I).P:=by
 cases d with
 | zero=>exact C3e I
 | succ d =>
  unfold Z2;exact (A7k (d+1) _).P _ ((A7k (d+1) _).P _ (C3e I))
theorem B7b {I:B4} (h:D5 I):D5 (O3 I) :=
 h.new (by omega) (by simp) (D0u I _ (by omega) (by simp)) fun _ u hu=>by rw[(List.mem_replicate.1 hu).2];exact B8w _
theorem U9.iwf {I J:B4} (h:U9 I J) (hw:D5 J) {j:Nat} (hj:j<3) {u:Int} (hu:P2 J.P u):D5 (J.put (I.V.length+1+j) u) :=
 hw.put h.here h.sz.2.2 (by rw[h.sz.2.1];exact hj) hu
theorem B5i {I:B4} {a:Nat} (h:a∈I.P):P2 I.P (D3 (a:Int)):=Or.inl ⟨a,h,rfl⟩
theorem D3h (P:List Nat) {n:Nat} (h:n≤1000):P2 P (P6 (n:Int)):=Or.inr (Or.inl ⟨n,by unfold U2;simp;omega,rfl⟩)
theorem B4f:∀ (d:Nat) (I:B4),d≤1000→D5 I→D5 (Z2 d I)
 | 0,I,_,h=>h
 | 1,I,_,h=>(U9.of I).iwf (B7b h) (by omega) (D3h _ (n:=1) (by omega))
 | d+2,I,hd,h=>by
  have w1:=B4f (d+1) _ (by omega) (B7b h);have l0:I.V.length<(O3 I).V.length:=by rw[B8m];omega
  have m1:=(U9.of I).then_ l0 (A7k (d+1) (O3 I));have w2:=m1.iwf w1 (j:=0) (by omega) (B5i (B5f d (O3 I)));have m2:=m1.put 0 (D3 (((O3 I).V.length:Nat):Int));have l2:I.V.length<((Z2 (d+1) (O3 I)).put (I.V.length+1+0) (D3 (((O3 I).V.length:Nat):Int))).V.length:=by
   show _<((Z2 (d+1) (O3 I)).V.set _ _).length;rw[Zc];exact Nat.lt_of_lt_of_le l0 (A7k (d+1) (O3 I)).len
  have w3:=B4f (d+1) _ (by omega) w2;have m3:=m2.then_ l2 (A7k (d+1) _);have hh:=B5f d ((Z2 (d+1) (O3 I)).put (I.V.length+1+0) (D3 (((O3 I).V.length:Nat):Int)));have el:((Z2 (d+1) (O3 I)).put (I.V.length+1+0) (D3 (((O3 I).V.length:Nat):Int))).V.length=(Z2 (d+1) (O3 I)).V.length:=Zc ..;rw[el] at hh;have w4:=m3.iwf w3 (j:=1) (by omega) (B5i hh);have m4:=m3.put 1 (D3 (((Z2 (d+1) (O3 I)).V.length:Nat):Int));unfold Z2;exact m4.iwf w4 (by omega) (D3h _ (by omega))
end Go.Proofs.YtelhoppfidibiaaGreatDoor
namespace Go.Proofs.YtelhoppfidibiaaGreatDoor
open Go.RowKit
structure A5f (w:World) (E:Nat→Addr) (B:Nat) (ten:Int):Prop where
 g4:G4 E w
 ht:0≤ten∧ten≤15
 gb:GB B
 lt:w.heap.size≤B
structure W7 (w wr:World) (B hb b k:Nat) (ten:Int) (R:Nat) (M:A7) (S:C8) (I:B4):Prop where
 oh:E7 wr B hb b M S ten 1
 ai:AI M 1 1000 R k
 hi:Holds I M
 wf:D5 I
 ext:A0 w wr
section
variable {w wr w' wA:World} {B hb b k R:Nat} {ten:Int} {M:A7} {S:C8} {E:Nat→Addr} {I J:B4} {ak:AK} {x:E4} {e:Ending}
theorem W7.at (h:W7 w wr B hb b k ten R M S I) (hx:A0 wr w'):W7 w w' B hb b k ten R M S I:=⟨h.oh.ext hx,h.ai,h.hi,h.wf,h.ext.trans_ hx⟩
def A8t (w:World) (B hb b:Nat) (ten:Int) (R:Nat) (wr:World) (S:C8) (J:B4) (e:Ending) (w':World):Prop:=e=.returned .nilIface∧∃ k' M' S',W7 w w' B hb b k' ten R M' S' J∧D7 hb b wr S w' S'
theorem W7.go (h:W7 w wr B hb b k ten R M S I) (v:A5f w E B ten) (hp:U0 wr B hb b S E ten 1000 R k I 1 M ak x V1 e w') (hs:T8 I ak x=true) (hx:F0 x.n) (hk:ak≠.look) (hd:doN I 1 ak x false=(st ak x I,1)):A8t w B hb b ten R wr S (st ak x I) e w':=by
 obtain⟨c,n,is,M',S',I',nx',h0,h1,h2,h3,h4⟩:=hp;obtain⟨r1,r2,r3⟩:=h4.goesT h.hi h.ai.inv h.wf hs hk;obtain⟨e1,e2,-⟩:=A9t hs h.wf;have hw:=(h.wf.doN (nx:=1) (by omega) ak x hx false e1).1;rw[hd] at r2 hw;obtain⟨r4,r5⟩:=Prod.mk.inj r2;subst r1 r4 r5;exact⟨h0,_,M',S',⟨h1,h3,r3,hw,D7.extB h.ext v.lt h.oh h2⟩,h2⟩
theorem W7.make (h:W7 w wr B hb b k ten R M S I) (v:A5f w E B ten) (r p q:Int) (hr:F0 r) (hs:T8 I .make (tx r p q 0)=true):Calls Ze 11 #[.pointer (some ⟨hb,0,none⟩),.int .i64 r,.int .i64 p,.int .i64 q] wr (A8t w B hb b ten R wr S (st .make (tx r p q 0) I)) :=
 (C8h h.oh h.ai (v.g4.ext h.ext) v.ht v.gb h.hi (by have:=(A9t hs h.wf).2.1;omega) (tx r p q 0) hr).mono fun e w' hp=>h.go v hp hs (by show F0 0;unfold F0;omega) (fun q=>by cases q) rfl
theorem W7.put (h:W7 w wr B hb b k ten R M S I) (v:A5f w E B ten) (r p q:Int) (hr:F0 r) (hq:F0 q) (hs:T8 I .put (tx r p q 0)=true):Calls Ze 16 #[.pointer (some ⟨hb,0,none⟩),.int .i64 r,.int .i64 p,.int .i64 q] wr (A8t w B hb b ten R wr S (st .put (tx r p q 0) I)) :=
 (D0p h.oh h.ai (v.g4.ext h.ext) v.ht v.gb h.hi (by have:=(A9t hs h.wf).2.1;omega) (tx r p q 0) hr hq).mono fun e w' hp=>h.go v hp hs (by show F0 0;unfold F0;omega) (fun q=>by cases q) rfl
theorem W7.int (h:W7 w wr B hb b k ten R M S I) (v:A5f w E B ten) (r n:Int) (hr:F0 r) (hn:F0 n) (hs:T8 I .int (tx r 0 0 n)=true):Calls Ze 15 #[.pointer (some ⟨hb,0,none⟩),.int .i64 r,.int .i64 n] wr (A8t w B hb b ten R wr S (st .int (tx r 0 0 n) I)) :=
 (C7c h.oh h.ai (v.g4.ext h.ext) v.ht v.gb h.hi (by have:=(A9t hs h.wf).2.1;omega) (tx r 0 0 n) hr).mono fun e w' hp=>h.go v hp hs hn (fun q=>by cases q) rfl
theorem W7.const (h:W7 w wr B hb b k ten R M S I) (v:A5f w E B ten) (r:Int) (hr:F0 r) (hs:T8 I .const (tx r 0 0 0)=true):Calls Ze 22 #[.pointer (some ⟨hb,0,none⟩),.int .i64 r,.int .i64 0] wr (A8t w B hb b ten R wr S (st .const (tx r 0 0 0) I)) :=
 (C4q h.oh h.ai (v.g4.ext h.ext) v.ht v.gb h.hi (by have:=(A9t hs h.wf).2.1;omega) (tx r 0 0 0) hr).mono fun e w' hp=>h.go v hp hs (by show F0 0;unfold F0;omega) (fun q=>by cases q) rfl
theorem W7.copy (h:W7 w wr B hb b k ten R M S I) (v:A5f w E B ten) (r q:Int) (hr:F0 r) (hq:F0 q) (hs:T8 I .copy (tx r q 0 0)=true):Calls Ze 21 #[.pointer (some ⟨hb,0,none⟩),.int .i64 r,.int .i64 q] wr (A8t w B hb b ten R wr S (st .copy (tx r q 0 0) I)) :=
 (C4r h.oh h.ai (v.g4.ext h.ext) v.ht v.gb h.hi (by have:=(A9t hs h.wf).2.1;omega) (tx r q 0 0) hr hq).mono fun e w' hp=>h.go v hp hs (by show F0 0;unfold F0;omega) (fun q=>by cases q) rfl
theorem W7.major (h:W7 w wr B hb b k ten R M S I) (v:A5f w E B ten) (hl:I.V.length≤900):Calls Ze 13 #[.pointer (some ⟨hb,0,none⟩)] wr (A8t w B hb b ten R wr S I) :=
 (C8g h.oh h.ai (v.g4.ext h.ext) v.ht v.gb h.hi (by omega) (tx 0 0 0 0)).mono fun e w' hp=>h.go v hp (by unfold T8;simp[I5,U5,hl]) (by show F0 0;unfold F0;omega) (fun q=>by cases q) rfl
structure U8 (w wr:World) (B hb b:Nat) (ten:Int) (R:Nat) (I:B4) (B2:Nat) (T:B4) (mb:Nat):Prop where
 h:∃ k M S,W7 w wr B hb b k ten R M S I∧∃ X,X.mb=mb∧E9 wr B2 T 1 X∧∀ i,HL hb b S i→¬ML T X i
theorem U8.step {T:B4} {B2 mb:Nat} {X:Q7} (hX:X.mb=mb) (hR:E9 wr B2 T 1 X) (ha:∀ i,HL hb b S i→¬ML T X i) (hp:A8t w B hb b ten R wr S J e w'):e=.returned .nilIface∧U8 w w' B hb b ten R J B2 T mb:=by
 obtain⟨h0,k',M',S',h1,h2⟩:=hp;refine⟨h0,⟨k',M',S',h1,X,hX,hR.keep h2.keep ha,fun i hi hm=>?_⟩⟩;rcases h2.own i hi with q|q
 ·exact ha i q hm
 ·have:=(hR.own hm).2;omega
theorem U8.at {T:B4} {B2 mb:Nat} (h:U8 w wr B hb b ten R I B2 T mb) (hx:A0 wr w'):U8 w w' B hb b ten R I B2 T mb:=by
 obtain⟨k,M,S,h1,X,h2,h3,h4⟩:=h.h;exact⟨k,M,S,h1.at hx,X,h2,h3.ext hx,h4⟩
theorem U8.ext {T:B4} {B2 mb:Nat} (h:U8 w wr B hb b ten R I B2 T mb):A0 w wr:=by
 obtain⟨k,M,S,h1,_⟩:=h.h;exact h1.ext
theorem U8.const {T:B4} {B2 mb:Nat} (h:U8 w wr B hb b ten R I B2 T mb) (v:A5f w E B ten) (r:Int) (hr:F0 r) (hs:T8 I .const (tx r 0 0 0)=true):Calls Ze 22 #[.pointer (some ⟨hb,0,none⟩),.int .i64 r,.int .i64 0] wr fun e w'=>e=.returned .nilIface∧U8 w w' B hb b ten R (st .const (tx r 0 0 0) I) B2 T mb:=by
 obtain⟨k,M,S,h1,X,h2,h3,h4⟩:=h.h;exact (h1.const v r hr hs).mono fun e w' hp=>U8.step h2 h3 h4 hp
theorem U8.copy {T:B4} {B2 mb:Nat} (h:U8 w wr B hb b ten R I B2 T mb) (v:A5f w E B ten) (r q:Int) (hr:F0 r) (hq:F0 q) (hs:T8 I .copy (tx r q 0 0)=true):Calls Ze 21 #[.pointer (some ⟨hb,0,none⟩),.int .i64 r,.int .i64 q] wr fun e w'=>e=.returned .nilIface∧U8 w w' B hb b ten R (st .copy (tx r q 0 0) I) B2 T mb:=by
 obtain⟨k,M,S,h1,X,h2,h3,h4⟩:=h.h;exact (h1.copy v r q hr hq hs).mono fun e w' hp=>U8.step h2 h3 h4 hp
end
end Go.Proofs.YtelhoppfidibiaaGreatDoor
namespace Go.Proofs.YtelhoppfidibiaaGreatDoor
open Go.RowKit
def grL (d:Nat) (I:B4):Nat→B4
 | 0=>gr1 d I
 | k+1=>st .put (tx ((d+1:Nat):Int) (k:Int) (d:Int) 0) (A6e d (grL d I k))
theorem E1n {d:Nat} {I:B4} (h:A8f (d+1) I=true):T8 I .make (tx ((d+1:Nat):Int) 8 3 0)=true∧(∀ k,k<2→A8f d (grL d I k)=true∧T8 (A6e d (grL d I k)) .put (tx ((d+1:Nat):Int) (k:Int) (d:Int) 0)=true)∧T8 (grL d I 2) .int (tx (d:Int) 0 0 ((d+1:Nat):Int))=true∧T8 (st .int (tx (d:Int) 0 0 ((d+1:Nat):Int)) (grL d I 2)) .put (tx ((d+1:Nat):Int) 2 (d:Int) 0)=true:=by
 unfold A8f at h;simp only[Za] at h;obtain⟨a1,a2,a3,a4,a5,a6,a7⟩:=h;refine⟨a1,fun k hk=>?_,a6,a7⟩;have hk2:k=0∨k=1:=by omega
 rcases hk2 with rfl|rfl
 ·exact⟨a2,a3⟩
 ·exact⟨a4,a5⟩
theorem E1o (d:Nat) (I:B4):A6e (d+1) I=st .put (tx ((d+1:Nat):Int) 2 (d:Int) 0) (st .int (tx (d:Int) 0 0 ((d+1:Nat):Int)) (grL d I 2)):=rfl
def C3r (w:World) (B hb b:Nat) (ten:Int) (R:Nat) (J:B4) (e:Ending) (w':World):Prop:=e=.returned (.bool true)∧∃ k' M' S',W7 w w' B hb b k' ten R M' S' J
theorem B4d {n:Nat} (h:n≤1000):F0 (n:Int):=by unfold F0;omega
theorem E1q (w:World) (E:Nat→Addr) (B hb b R:Nat) (ten:Int) (v:A5f w E B ten) (wr:World) (k:Nat) (M:A7) (S:C8) (I:B4) (h:W7 w wr B hb b k ten R M S I) (hs:A8f 0 I=true):Calls Ze 24 #[.pointer (some ⟨hb,0,none⟩),.int .i64 0,.int .i64 0] wr (C3r w B hb b ten R (A6e 0 I)):=by
 have H:=Hz h;have HV:=Hz v;have HS:=Hz (show T8 I .const (tx 0 0 0 0)=true from hs);clear h v hs
 go_enter Tryz.func24,Tryz.ntmps24
 go_wp2_with (go_at_call 22;refine (H.out.const HV.out 0 (B4d (n:=0) (by omega)) HS.out).mono ?_;rintro e w2 ⟨rfl,k2,M2,S2,h2,-⟩;have H2:=Hz h2;clear h2)
 go_ret;exact⟨rfl,k2,M2,S2,H2.out⟩
theorem E1p (w:World) (E:Nat→Addr) (B hb b R:Nat) (ten:Int) (v:A5f w E B ten):∀ (d:Nat),d≤100→∀ (wr:World) (k:Nat) (M:A7) (S:C8) (I:B4),W7 w wr B hb b k ten R M S I→A8f d I=true→Calls Ze 24 #[.pointer (some ⟨hb,0,none⟩),.int .i64 (d:Int),.int .i64 (d:Int)] wr (C3r w B hb b ten R (A6e d I)):=by
 intro d
 induction d with
 | zero=>intro _ wr k M S I h hs;exact E1q w E B hb b R ten v wr k M S I h hs
 | succ d ih =>
  intro hd wr k M S I h hs;have HD:=Hz hd;have HI:=Hz (ih (by omega));have HV:=Hz v;have H:=Hz h;obtain⟨a1,a2,a3,a4⟩:=E1n hs;have A1:=Hz a1;have A2:=Hz a2;have A3:=Hz a3;have A4:=Hz a4;clear a1 a2 a3 a4 ih h hs v;rw[E1o];have IN:=Hz (show F0 ((d+1:Nat):Int) from B4d (by omega));have ID:=Hz (show F0 (d:Int) from B4d (by omega));obtain⟨n,hn⟩:∃ n:Int,((d+1:Nat):Int)=n:=⟨_,rfl⟩;rw[hn] at A1 A2 A3 A4 IN ⊢;have n0:(n==0)=false:=by simp;omega
  have n1:¬n=0:=by omega
  have f1:wrap64 (n-1)=(d:Int):=by rw[IntWalk.wrap64_in _ ⟨by omega,by omega⟩];omega
  have HN:=Hz hn;clear hn
  go_enter Tryz.func24,Tryz.ntmps24
  go_upto_region 6 with (go_at_call 11;refine (H.out.make HV.out n 8 3 IN.out A1.out).mono ?_;rintro e w2 ⟨rfl,k2,M2,S2,h2,-⟩;have H2:=Hz h2;clear h2)
  go_loopg [7] 2 (fun r i wr=>∃ (j kk:Nat) (M:A7) (S:C8),j+r=2∧i=.int .i64 (j:Int)∧Hid (W7 w wr B hb b kk ten R M S (grL d I j)))
  case atStart=>exact⟨0,_,_,_,rfl,rfl,(show W7 w _ B hb b k2 ten R M2 S2 (grL d I 0) from by rw[show grL d I 0=st .make (tx n 8 3 0) I from by rw[←HN.out];rfl];exact H2.out)⟩
  case round =>
   obtain⟨j,kk,M5,S5,hj,rfl,H5⟩:=hrel
   cases gk with
   | succ r =>
    have hlt:(j:Int)<2:=by omega
    have HJ:=Hz hj;obtain⟨b1,b2⟩:=A2.out j (by omega);have B1:=Hz b1;have B2:=Hz b2;clear b1 b2 hj
    go_wp2_with (first
     | (go_at_call 24;refine (HI.out _ _ _ _ _ H5.out B1.out).mono ?_;rintro e w6 ⟨rfl,k6,M6,S6,h6⟩;have H6:=Hz h6;clear h6)
     | (go_at_call 16;refine (H6.out.put HV.out n (j:Int) (d:Int) IN.out ID.out B2.out).mono ?_;rintro e w7 ⟨rfl,k7,M7,S7,h7,-⟩;have H7:=Hz h7;clear h7))
    go_roundg r
    case measure=>omega
    case rel=>exact⟨j+1,k7,M7,S7,by have:=HJ.out;omega,by go_num,(show W7 w _ B hb b k7 ten R M7 S7 (grL d I (j+1)) from by rw[show grL d I (j+1)=st .put (tx n (j:Int) (d:Int) 0) (A6e d (grL d I j)) from by rw[←HN.out];rfl];exact H7.out)⟩
   | zero =>
    obtain rfl:j=2:=by omega
    have hlt:¬((2:Nat):Int)<2:=by omega
    clear hj
    go_wp2_with (first
     | (go_at_call 15;refine (H5.out.int HV.out (d:Int) n ID.out IN.out A3.out).mono ?_;rintro e w6 ⟨rfl,k6,M6,S6,h6,-⟩;have H6:=Hz h6;clear h6)
     | (go_at_call 16;refine (H6.out.put HV.out n 2 (d:Int) IN.out ID.out A4.out).mono ?_;rintro e w7 ⟨rfl,k7,M7,S7,h7,-⟩;have H7:=Hz h7;clear h7))
    go_ret;exact⟨rfl,k7,M7,S7,H7.out⟩
end Go.Proofs.YtelhoppfidibiaaGreatDoor
namespace Go.Proofs.YtelhoppfidibiaaGreatDoor
open Go.RowKit
structure A2t (wA:World) (I0 I:B4) (nx:Int) (X0 X:Q7) (w':World):Prop where
 md:E9 w' wA.heap.size I nx X
 ext:A0 wA w'
 mb:X.mb=X0.mb
 G:X.G=X0.G
 pl:∀ a∈I0.P,X.pl a=X0.pl a∧X.fl a=X0.fl a
def D4g (wA:World) (I:B4) (d:Nat) (nx:Int) (X:Q7) (e:Ending) (w':World):Prop:=∃ X' a,e=.returned (.pointer (some ⟨a,0,none⟩))∧X'.pl I.V.length=a∧A2t wA I (Z2 (d+1) I) nx X X' w'
def tI1 (d:Nat) (I:B4):B4:=Z2 (d+1) (O3 I)
def tI2 (d:Nat) (I:B4):B4:=(tI1 d I).put (I.V.length+1+0) (D3 (((O3 I).V.length:Nat):Int))
def tI3 (d:Nat) (I:B4):B4:=Z2 (d+1) (tI2 d I)
def tI4 (d:Nat) (I:B4):B4:=(tI3 d I).put (I.V.length+1+1) (D3 (((tI2 d I).V.length:Nat):Int))
theorem F6u (d:Nat) (I:B4):Z2 (d+2) I=(tI4 d I).put (I.V.length+1+2) (P6 ((d+2:Nat):Int)):=by
 have e:(tI2 d I).V.length=(tI1 d I).V.length:=Zc ..;unfold tI4;rw[e];rfl
structure D4f (d:Nat) (I:B4):Prop where
 m0:U9 I (O3 I)
 w0:D5 (O3 I)
 m1:U9 I (tI1 d I)
 w1:D5 (tI1 d I)
 m2:U9 I (tI2 d I)
 w2:D5 (tI2 d I)
 m3:U9 I (tI3 d I)
 w3:D5 (tI3 d I)
 m4:U9 I (tI4 d I)
 w4:D5 (tI4 d I)
 l0:(O3 I).V.length+4*2^(d+1)≤1000000000
 l2:(tI2 d I).V.length+4*2^(d+1)≤1000000000
theorem F7w {d:Nat} {I:B4} (hd:d+1≤100) (h:D5 I) (hl:I.V.length+4*2^(d+1+1)≤1000000000):D4f d I:=by
 have n1:=C3d (d+1) (O3 I);have l0:=B8m I;have e1:(tI2 d I).V.length=(Z2 (d+1) (O3 I)).V.length:=Zc ..;have hp:=Nat.pow_succ 2 (d+1);have q:1≤2^(d+1):=Nat.one_le_two_pow;have m0:=U9.of I;have w0:=B7b h;have m1:U9 I (tI1 d I):=m0.then_ (by omega) (A7k (d+1) (O3 I));have w1:D5 (tI1 d I):=B4f (d+1) _ (by omega) w0;have m2:U9 I (tI2 d I):=m1.put 0 _;have w2:D5 (tI2 d I):=m1.iwf w1 (j:=0) (by omega) (B5i (B5f d (O3 I)));have m3:U9 I (tI3 d I):=m2.then_ (by omega) (A7k (d+1) _);have w3:D5 (tI3 d I):=B4f (d+1) _ (by omega) w2;exact⟨m0,w0,m1,w1,m2,w2,m3,w3,m3.put 1 _,m3.iwf w3 (j:=1) (by omega) (B5i (B5f d (tI2 d I))),by omega,by omega⟩
section
variable {wA w w':World} {I0 I:B4} {nx:Int} {X0 X:Q7}
theorem A2t.at (h:A2t wA I0 I nx X0 X w) (k:A0 w w'):A2t wA I0 I nx X0 X w':=⟨h.md.ext k,h.ext.trans_ k,h.mb,h.G,h.pl⟩
theorem A2t.at_ (h:A2t wA I0 I nx X0 X w) (m:U9 I0 I) {j:Nat} (hj:j<3):w.cell? ⟨X.pl I0.V.length,1,none⟩=some (.slice (some ⟨X.fl I0.V.length,0,none⟩) 3 3)∧A5r w (X.fl I0.V.length) (j*3) X.pl (A6 I.V (I0.V.length+1+j))∧(∀ i,w.frozen? ⟨X.fl I0.V.length,i,none⟩=false)∧X.fl I0.V.length<w.heap.size∧X.pl I0.V.length<w.heap.size∧X.pl I0.V.length≠X.fl I0.V.length:=by
 have hN:=h.md.node _ m.here;obtain⟨k1,k2,k3⟩:=m.sz;have hf:=hN.flds;unfold A2f at hf;rw[if_neg (by omega),k2] at hf;have ha:=(h.md.apart).2.2.2.2.1 _ m.here _ m.here k1;exact⟨hf,hN.fld k1 j (by rw[k2];exact hj),A2h (hN.fblk k1),A6f (hN.fblk k1),A6f hN.blk,ha⟩
theorem A2t.put (h:A2t wA I0 I nx X0 X w) (m:U9 I0 I) (hw:D5 I) {j:Nat} (hj:j<3) {k n v:Int} {p:Option Addr} (hk:S9 v=k) (hn:A1b v=n) (hp:O7 X.pl v=p):A2t wA I0 (I.put (I0.V.length+1+j) v) nx X0 X (A1m w (X.fl I0.V.length) (j*3) k n p):=by
 obtain⟨k1,k2,k3⟩:=m.sz;obtain⟨h1,h2⟩:=h.md.put hw m.here k1 (by rw[k2];exact hj) hk hn hp;exact⟨h1,A0.keep h.ext h2 fun i hi=>(h.md.own hi).1,h.mb,h.G,h.pl⟩
theorem A2t.sub {K:B4} {X2:Q7} (h:A2t wA I0 I nx X0 X w) (m:U9 I0 I) (hP:∀ a∈I0.P,a∈I.P) (k:A2t wA I K nx X X2 w'):A2t wA I0 K nx X0 X2 w'∧X2.pl I0.V.length=X.pl I0.V.length∧X2.fl I0.V.length=X.fl I0.V.length :=
 ⟨⟨k.md,k.ext,k.mb.trans h.mb,k.G.trans h.G,fun a ha=>⟨(k.pl a (hP a ha)).1.trans (h.pl a ha).1,(k.pl a (hP a ha)).2.trans (h.pl a ha).2⟩⟩,(k.pl _ m.here).1,(k.pl _ m.here).2⟩
theorem D2o (hM:E9 w wA.heap.size I nx X) (hx:A0 wA w) (hw:D5 I) (hl:I.V.length≤1000000000) {p f:Nat} (hE:A0 w w') (hp:w.heap.size≤p) (hf:w.heap.size≤f∧f≠p) (hn:A3f w' (O3 I).V (X.new I.V.length p f) I.V.length 0):A2t wA I (O3 I) nx X (X.new I.V.length p f) w'∧(X.new I.V.length p f).pl I.V.length=p∧(X.new I.V.length p f).fl I.V.length=f :=
 ⟨⟨E9.new hM hw hl hE hp hx.size (fun _=>hf) (by omega) (by simp) hn,hx.trans_ hE,rfl,rfl,fun a ha=>by
  have:=hw.dom a ha;exact⟨if_neg (by omega),if_neg (by omega)⟩⟩,if_pos rfl,if_pos rfl⟩
end
theorem F7x (wA:World) (nx:Int):∀ (d:Nat),d≤100→∀ (w:World) (I:B4) (X:Q7),E9 w wA.heap.size I nx X→A0 wA w→D5 I→I.V.length+4*2^(d+1)≤1000000000→Calls Ze 25 #[.int .i64 ((d+1:Nat):Int)] w (D4g wA I d nx X):=by
 intro d
 induction d with
 | zero =>
  intro hd w I X hM hx hw hl;rw[show ((0+1:Nat):Int)=1 from rfl];obtain⟨i0,hi0,h0a,h0b,h0c⟩:=info_parts B6x;obtain⟨w1,hr1,ho1,hg1⟩:=run_make_full (P:=Ze) w w.heap.size 53 52 i0 (.agg #[.int .i64 0,.int .i64 0,.pointer none]) 3 B8p hi0 h0a h0b .i64 .i64 3 (by rw[h0c];omega) (by unfold maxLen;omega) (Zd _);rw[show ((3:Nat):Int)=3 from rfl] at hr1;have hx1:A0 w w1:=Below.grown (Below.refl _ _) hg1 (Zd _) (fun k hk=>by cases hk);have hR:=(R4 ho1).1;have hcl:∀ j,j<3*3→w1.cell? ⟨w.heap.size,j,none⟩=some ((#[.int .i64 0,.int .i64 0,.pointer none]:Array Value)[j%3]!):=fun j hj=>by
   have h1:(madeCells (Value.agg #[.int .i64 0,.int .i64 0,.pointer none]).cells (3*3)).toList[j]?=some ((#[.int .i64 0,.int .i64 0,.pointer none]:Array Value)[j%3]!):=by
    rw[Array.getElem?_toList];exact B7h _ _ _ hj
   have:=hR.at_ h1;simpa using this
  have hfb:∃ cur t,w1.heap[w.heap.size]?=some (.cells cur t (0,0)):=by
   obtain⟨_,h2⟩:=ho1;rcases h2 with⟨e,_⟩|⟨g,cap,cur,e,q1,q2,_⟩
   ·cases e
   ·cases e;exact⟨cur,_,q2⟩
  have hlt:w.heap.size<w1.heap.size:=A6f hfb;have hxn:A0 w1 (w1.alloc (.cells #[.int .i64 8,.slice (some ⟨w.heap.size,0,none⟩) 3 3,.int .i64 0,.string ⟨#[]⟩,.int .i64 0] 102)):=(A0.refl w1).alloc_ _;obtain⟨hT,hpn,hfn⟩:=D2o (p:=w1.heap.size) (f:=w.heap.size) hM hx hw (by omega) (hx1.trans_ hxn) hx1.size ⟨Zd _,by omega⟩ (C1v (t:=102) (m:=3) (by omega) (by omega) (heap_alloc_new _ _) (A0q (L:=fun _=>False) (A8.of_ext hxn) (fun q=>q) hfb) fun j hj=>⟨hxn.cell_ (by rw[hcl _ (by omega),show j*3%3=0 by omega];rfl),hxn.cell_ (by rw[hcl _ (by omega),show (j*3+1)%3=1 by omega];rfl),hxn.cell_ (by rw[hcl _ (by omega),show (j*3+2)%3=2 by omega];rfl)⟩);obtain⟨w2,hw2⟩:∃ w2,w1.alloc (.cells #[.int .i64 8,.slice (some ⟨w.heap.size,0,none⟩) 3 3,.int .i64 0,.string ⟨#[]⟩,.int .i64 0] 102)=w2:=⟨_,rfl⟩;rw[hw2] at hT;clear ho1 hg1 hR hcl hfb hx1 hxn hi0 h0a h0b h0c;obtain⟨b1,b2,b3,b4,b5,b6⟩:=hT.at_ (U9.of I) (j:=2) (by omega);rw[hpn] at b1 b5 b6;rw[hfn] at b1 b2 b3 b4 b6;obtain⟨c0,c1,c2⟩:=b2;have b7:=Hz b6;have HT:=Hz hT;have HW:=Hz (B7b hw);have HF:=Hz hfn;have HP:=Hz hpn;clear hT hpn hfn hM hw hx b6
  go_enter Tryz.func25,Tryz.ntmps25
  go_upto_region 2 with fail
  clear hw2;go_wp2;go_ret;exact⟨_,_,rfl,HP.out,(HT.out.put (U9.of I) HW.out (j:=2) (by omega) (v:=P6 1) (B4y (n:=1) (by decide)).1 (B4y (n:=1) (by decide)).2.1 ((B4y (n:=1) (by decide)).2.2 _)).at (by rw[HF.out];exact eX)⟩
 | succ d ih =>
  intro hd w I X hM hx hw hl;have hI:=ih (by omega);have AL:=Hz (F7w hd hw hl);obtain⟨m,hm⟩:∃ m:Int,((d+1:Nat):Int)=m:=⟨_,rfl⟩;rw[hm] at hI;have HI:=Hz hI;obtain⟨n,hn⟩:∃ n:Int,((d+1+1:Nat):Int)=n:=⟨_,rfl⟩;rw[hn];have hgt:(1:Int)<n:=by omega
  have f1:wrap64 (n-1)=m:=by rw[IntWalk.wrap64_in _ ⟨by omega,by omega⟩];omega
  have F2:Hid (IntKind.i64.wrap (n-1)=m):=(IntWalk.i64_left _).trans f1;have HN:=Hz hn;have HDD:=Hz hd;clear ih hI hn hd hm;obtain⟨i0,hi0,h0a,h0b,h0c⟩:=info_parts B6x;obtain⟨w1,hr1,ho1,hg1⟩:=run_make_full (P:=Ze) w w.heap.size 53 52 i0 (.agg #[.int .i64 0,.int .i64 0,.pointer none]) 3 B8p hi0 h0a h0b .i64 .i64 3 (by rw[h0c];omega) (by unfold maxLen;omega) (Zd _);rw[show ((3:Nat):Int)=3 from rfl] at hr1;have hx1:A0 w w1:=Below.grown (Below.refl _ _) hg1 (Zd _) (fun k hk=>by cases hk);have hR:=(R4 ho1).1;have hcl:∀ j,j<3*3→w1.cell? ⟨w.heap.size,j,none⟩=some ((#[.int .i64 0,.int .i64 0,.pointer none]:Array Value)[j%3]!):=fun j hj=>by
   have h1:(madeCells (Value.agg #[.int .i64 0,.int .i64 0,.pointer none]).cells (3*3)).toList[j]?=some ((#[.int .i64 0,.int .i64 0,.pointer none]:Array Value)[j%3]!):=by
    rw[Array.getElem?_toList];exact B7h _ _ _ hj
   have:=hR.at_ h1;simpa using this
  have hfb:∃ cur t,w1.heap[w.heap.size]?=some (.cells cur t (0,0)):=by
   obtain⟨_,h2⟩:=ho1;rcases h2 with⟨e,_⟩|⟨g,cap,cur,e,q1,q2,_⟩
   ·cases e
   ·cases e;exact⟨cur,_,q2⟩
  have hlt:w.heap.size<w1.heap.size:=A6f hfb;have hxn:A0 w1 (w1.alloc (.cells #[.int .i64 8,.slice (some ⟨w.heap.size,0,none⟩) 3 3,.int .i64 0,.string ⟨#[]⟩,.int .i64 0] 102)):=(A0.refl w1).alloc_ _;obtain⟨hT,hpn,hfn⟩:=D2o (p:=w1.heap.size) (f:=w.heap.size) hM hx hw (by omega) (hx1.trans_ hxn) hx1.size ⟨Zd _,by omega⟩ (C1v (t:=102) (m:=3) (by omega) (by omega) (heap_alloc_new _ _) (A0q (L:=fun _=>False) (A8.of_ext hxn) (fun q=>q) hfb) fun j hj=>⟨hxn.cell_ (by rw[hcl _ (by omega),show j*3%3=0 by omega];rfl),hxn.cell_ (by rw[hcl _ (by omega),show (j*3+1)%3=1 by omega];rfl),hxn.cell_ (by rw[hcl _ (by omega),show (j*3+2)%3=2 by omega];rfl)⟩);obtain⟨w2,hw2⟩:∃ w2,w1.alloc (.cells #[.int .i64 8,.slice (some ⟨w.heap.size,0,none⟩) 3 3,.int .i64 0,.string ⟨#[]⟩,.int .i64 0] 102)=w2:=⟨_,rfl⟩;rw[hw2] at hT;clear ho1 hg1 hR hcl hfb hx1 hxn hi0 h0a h0b h0c;have hw9:=hlt;have HT:=Hz hT;obtain⟨b1,-,-,b4,b5,b6⟩:=hT.at_ AL.out.m0 (j:=0) (by omega);rw[hpn] at b1 b5 b6;rw[hfn] at b1 b4 b6;have HF:=Hz hfn;have HP:=Hz hpn;have HB6:=Hz b6;have HT0:Hid (A2t wA I (O3 I) nx X (X.new I.V.length w1.heap.size w.heap.size) w2∧(X.new I.V.length w1.heap.size w.heap.size).pl I.V.length=w1.heap.size∧(X.new I.V.length w1.heap.size w.heap.size).fl I.V.length=w.heap.size):=⟨HT.out,HP.out,HF.out⟩;clear hT hpn hfn hM hw hx b6 hl HT HF HP HB6
  go_enter Tryz.func25,Tryz.ntmps25
  go_upto_region 3 with fail
  clear hw2;refine wp_region_held_drew (S:=fun W=>W.cell? ⟨w1.heap.size,1,none⟩=some (.slice (some ⟨w.heap.size,0,none⟩) 3 3)) (by kernel_rfl) ?_ (fun hH=>?_)
  ·exact b1
  refine tJ 0 9 rfl ?_
  try simp only[A5]
  refine tJ 1 10 rfl ?_
  try simp only[A5]
  refine tJ 2 11 rfl ?_
  try simp only[A5]
  refine tJ 3 12 rfl ?_
  try simp only[A5]
  refine tJ 4 13 rfl ?_
  try simp only[A5]
  refine tJ 5 14 rfl ?_
  try simp only[A5]
  refine wpAnyH_ready (rs:=[6]) (by kernel_rfl) (by simp) ?_;refine AllReadyH.cons (o:=⟨some 15,_,_,_,_,_⟩) rfl (fun K hK=>?_) AllReadyH.nil;go_simp;rw[F2.out];refine (HI.out _ (O3 I) _ (HT0.out.1.at ((A0.refl _).drew_)).md (HT0.out.1.at ((A0.refl _).drew_)).ext AL.out.w0 AL.out.l0).mono ?_;rintro e w3 ⟨X3,q3,rfl,hq3,ht3⟩;obtain⟨ht3,hpl,hfl⟩:=(HT0.out.1.at ((A0.refl _).drew_)).sub AL.out.m0 (by exact (A0n.new I).P) ht3;rw[HT0.out.2.1] at hpl;rw[HT0.out.2.2] at hfl;obtain⟨u1,⟨u2,u3,u4⟩,u5,u6,u7,u8⟩:=ht3.at_ AL.out.m1 (j:=0) (by omega);rw[hpl] at u1 u7 u8;rw[hfl] at u1 u2 u3 u4 u5 u6 u8;have qc:=B3c (a:=(O3 I).V.length) (by have:=AL.out.l0;omega) X3.pl;rw[hq3] at qc;have hs4:=ht3.put AL.out.m1 AL.out.w1 (j:=0) (by omega) qc.1 qc.2.1 qc.2.2;rw[hfl] at hs4;obtain⟨w4,hw4⟩:∃ w4,((w3.setCell ⟨w.heap.size,0,none⟩ (.int .i64 4)).setCell ⟨w.heap.size,1,none⟩ (.int .i64 0)).setCell ⟨w.heap.size,2,none⟩ (.pointer (some ⟨q3,0,none⟩))=w4:=⟨_,rfl⟩;have H4:Hid (A2t wA I (tI2 d I) nx X X3 w4∧X3.pl I.V.length=w1.heap.size∧X3.fl I.V.length=w.heap.size):=⟨by rw[←hw4];exact hs4,hpl,hfl⟩;obtain⟨v1,⟨v2,v3,v4⟩,v5,v6,v7,v8⟩:=H4.out.1.at_ AL.out.m2 (j:=1) (by omega);rw[hpl] at v1 v7;rw[hfl] at v1 v2 v3 v4 v5 v6;clear ht3 hs4 qc hpl hfl u8 v8 hq3;refine hK.out _ _ ?_ (fun hH=>?_)
  ·(try dsimp only);exact u1
  clear hK K
  try simp only[A5]
  refine tJ 7 16 rfl ?_
  try simp only[A5]
  refine tJ 8 17 rfl ?_
  try simp only[A5]
  refine wpAnyH_ready (rs:=[9]) (by kernel_rfl) (by simp) ?_;refine AllReadyH.cons (o:=⟨none,_,_,_,_,_⟩) rfl (fun K hK=>?_) AllReadyH.nil;go_simp;skip;refine hK.out _ _ ?_ (fun hH=>?_)
  ·(try dsimp only);exact v1
  clear hK K
  try simp only[A5]
  refine wpAnyH_done (by kernel_rfl) ?_ _;clear u1 u2 u3 u4 u5 u6 u7 hw4;have y1:=v1;clear v1 v2 v3 v4 v5 v6 v7
  go_upto_region 4 with fail
  refine wp_region_held_drew (S:=fun W=>W.cell? ⟨w1.heap.size,1,none⟩=some (.slice (some ⟨w.heap.size,0,none⟩) 3 3)) (by kernel_rfl) ?_ (fun hH=>?_)
  ·exact y1
  refine tJ 0 18 rfl ?_
  try simp only[A5]
  refine tJ 1 19 rfl ?_
  try simp only[A5]
  refine tJ 2 20 rfl ?_
  try simp only[A5]
  refine tJ 3 21 rfl ?_
  try simp only[A5]
  refine tJ 4 22 rfl ?_
  try simp only[A5]
  refine tJ 5 23 rfl ?_
  try simp only[A5]
  refine wpAnyH_ready (rs:=[6]) (by kernel_rfl) (by simp) ?_;refine AllReadyH.cons (o:=⟨some 24,_,_,_,_,_⟩) rfl (fun K hK=>?_) AllReadyH.nil;go_simp;rw[F2.out];refine (HI.out _ (tI2 d I) _ (H4.out.1.at ((A0.refl _).drew_)).md (H4.out.1.at ((A0.refl _).drew_)).ext AL.out.w2 AL.out.l2).mono ?_;rintro e w5 ⟨X5,q5,rfl,hq5,ht5⟩;obtain⟨ht5,hpl,hfl⟩:=(H4.out.1.at ((A0.refl _).drew_)).sub AL.out.m2 (by exact AL.out.m2.k.P) ht5;rw[H4.out.2.1] at hpl;rw[H4.out.2.2] at hfl;obtain⟨u1,⟨u2,u3,u4⟩,u5,u6,u7,u8⟩:=ht5.at_ AL.out.m3 (j:=1) (by omega);rw[hpl] at u1 u7 u8;rw[hfl] at u1 u2 u3 u4 u5 u6 u8;have qc:=B3c (a:=(tI2 d I).V.length) (by have:=AL.out.l2;omega) X5.pl;rw[hq5] at qc;have hs6:=ht5.put AL.out.m3 AL.out.w3 (j:=1) (by omega) qc.1 qc.2.1 qc.2.2;rw[hfl] at hs6;obtain⟨w6,hw6⟩:∃ w6,((w5.setCell ⟨w.heap.size,3,none⟩ (.int .i64 4)).setCell ⟨w.heap.size,4,none⟩ (.int .i64 0)).setCell ⟨w.heap.size,5,none⟩ (.pointer (some ⟨q5,0,none⟩))=w6:=⟨_,rfl⟩;have H6:Hid (A2t wA I (tI4 d I) nx X X5 w6∧X5.pl I.V.length=w1.heap.size∧X5.fl I.V.length=w.heap.size):=⟨by rw[←hw6];exact hs6,hpl,hfl⟩;obtain⟨v1,⟨v2,v3,v4⟩,v5,v6,v7,v8⟩:=H6.out.1.at_ AL.out.m4 (j:=2) (by omega);rw[hpl] at v1 v7;rw[hfl] at v1 v2 v3 v4 v5 v6;clear ht5 hs6 qc hpl hfl u8 v8 hq5;refine hK.out _ _ ?_ (fun hH=>?_)
  ·(try dsimp only);exact u1
  clear hK K
  try simp only[A5]
  refine tJ 7 25 rfl ?_
  try simp only[A5]
  refine tJ 8 26 rfl ?_
  try simp only[A5]
  refine wpAnyH_ready (rs:=[9]) (by kernel_rfl) (by simp) ?_;refine AllReadyH.cons (o:=⟨none,_,_,_,_,_⟩) rfl (fun K hK=>?_) AllReadyH.nil;go_simp;skip;refine hK.out _ _ ?_ (fun hH=>?_)
  ·(try dsimp only);exact v1
  clear hK K
  try simp only[A5]
  refine wpAnyH_done (by kernel_rfl) ?_ _;clear u1 u2 u3 u4 u5 u6 u7 hw6;go_wp2;go_ret;have hsm:U2 ((d+2:Nat):Int)=true:=by unfold U2;have:=HDD.out;rw[Za,decide_eq_true_eq,decide_eq_true_eq];omega
  obtain⟨e1,e2,e3⟩:=B4y hsm;exact⟨_,_,rfl,H6.out.2.1,by rw[F6u];exact (H6.out.1.put AL.out.m4 AL.out.w4 (j:=2) (by omega) e1 (e2.trans HN.out) (e3 _)).at (by rw[H6.out.2.2];exact eX)⟩
end Go.Proofs.YtelhoppfidibiaaGreatDoor
namespace Go.Proofs.YtelhoppfidibiaaGreatDoor
open Go.RowKit
theorem E2l (half card ten:Int) (d:Nat) (h:A1i half 1000 card=true) (ht:0≤ten∧ten≤15) (hd:d≤100) (w:World) :
  Calls Ze 10 #[.agg #[.int .i64 half,.int .i64 1000,.int .i64 card,.int .i64 ten],.int .i64 ((d:Int)+2)] w (B9d w ten (A3j half 1000 card (d+2))):=C0s half 1000 card ten (d+2) h ht (by omega) w
theorem E7r (w:World):Calls Ze 17 #[.int .i64 1] w fun e w'=>∃ X,e=.returned (.pointer (some ⟨X.mb,0,none⟩))∧E9 w' w.heap.size (B4.fresh 1) 1 X∧A0 w w':=C8x 1 (by omega) w
theorem E2p (half card:Int) (d:Nat) (h:A1i half 1000 card=true) (hd:d≤100):AI (A3j half 1000 card (d+2)) 1 1000 (d+2) 0:=by
 refine⟨B7m half 1000 card (d+2) h (by omega),rfl,?_,?_,?_,by omega⟩<;>simp[A3j,T3]
theorem F6a {I:B4} {ak:AK} {x:E4} (h:T8 I ak x=true):I.V.length≤900:=by
 unfold T8 at h;simp only[Za,decide_eq_true_eq] at h;exact h.2.1
theorem D3e (s:ByteArray) (h:8≤s.size):∀ k,(A4a s k).size=s.size+10*k
 | 0=>rfl
 | k+1=>by
  show ((trA++trN)++(A4a s k).extract 8 (A4a s k).size).size=_;have:=D3e s h k;rw[ByteArray.size_append,ByteArray.size_extract,show (trA++trN).size=18 from rfl];omega
theorem C5i (l:List Ob):∀ (us:List Int) (out:ByteArray),(A1f l 8 us out).size≤out.size+40*us.length
 | [],out=>by simp[A1f]
 | u::us,out=>by
  have h2:=C5i l us (A1e l 8 out u);have h1:(A1e l 8 out u).size≤out.size+40:=by
   unfold A1e;rw[if_neg (by omega)];have:=A9x u l;simp only[ByteArray.size_append];have z:(⟨#[32]⟩:ByteArray).size=1:=rfl;omega
  unfold A1f at h2 ⊢;rw[Zb,List.length_cons];omega
theorem C9u (W:List Int) (l:List Ob):∀ (xs:List Ob) (i:Nat) (out:ByteArray),(∀ x∈xs,x.w=J7 8 0 0 3)→(V6 W l i xs out).size≤out.size+171*xs.length
 | [],i,out,_=>by show out.size≤_;simp
 | x::xs,i,out,h=>by
  have hx:=h x (by simp);have h1:=C9u W l xs (i+1) (Q9 W l x (A0f i (B3 x.w) out)++⟨#[10]⟩) fun y hy=>h y (by simp[hy])
  have e8:B3 (J7 8 0 0 3)=8:=by decide
  have hb:Q9 W l x (A0f i (B3 x.w) out)=A1f l (B3 x.w) (K8 W x) (A0f i (B3 x.w) out):=by
   unfold Q9;rw[hx,e8,if_neg (by omega),if_neg (by omega)]
  have hf:=C5i l (K8 W x) (A0f i (B3 x.w) out);rw[show (8:Int)=B3 x.w by rw[hx,e8]] at hf;have hn:(K8 W x).length=3:=by
   unfold K8 Ob.n;rw[hx];rfl
  have hh:=C0p i (B3 x.w) out;rw[hb,ByteArray.size_append] at h1;have z1:(⟨#[10]⟩:ByteArray).size=1:=rfl;show (V6 W l (i+1) xs _).size≤_;rw[hb,List.length_cons];omega
theorem C7m {d:Nat} (h1:1≤d) (hd:d≤100):D5 (Q5 d):=by
 have hw:=B4f d _ (by omega) (B7a 1);refine hw.setR 0 (B5i (a:=0) ?_);obtain⟨e,rfl⟩:∃ e,d=e+1:=⟨d-1,by omega⟩;exact B5f e (B4.fresh 1)
theorem F7u {d:Nat} (h:B9i d) (h1:1≤d) (hd:d≤100) (hl:(Q5 d).V.length≤900):8≤(A2q (Q5 d)).size∧(A2q (Q5 d)).size≤1000000:=by
 have hw:=C7m h1 hd;have g:=A9i hw (by omega);have gl:=g.len hw;have e1:=C2s (k:=0) h.rT;constructor
 ·rw[e1,ByteArray.size_append,show trA.size=8 from rfl];omega
 ·have e:A2q (Q5 d)=V6 (Q5 d).V (K4 (Q5 d)) 0 (K4 (Q5 d)) (A1l (K4 (Q5 d)) (Q5 d).roots ⟨#[]⟩):=rfl;have hs:=C9u (Q5 d).V (K4 (Q5 d)) (K4 (Q5 d)) 0 (A1l (K4 (Q5 d)) (Q5 d).roots ⟨#[]⟩) fun x hx=>by
   obtain⟨q1,q2⟩:=g.ob x hx;rw[q1];exact h.hd _ q2
  have hr:(A1l (K4 (Q5 d)) (Q5 d).roots ⟨#[]⟩).size≤100:=by
   rw[h.rT];show (A2p (K4 (Q5 d)) ⟨#[]⟩ (D3 0)).size≤100;unfold A2p;simp only[ByteArray.size_append];have:=A9x (D3 0) (K4 (Q5 d));have z1:(⟨#[]⟩:ByteArray).size=0:=rfl;have z2:(⟨#[114,111,111,116,32]⟩:ByteArray).size=5:=rfl;have z3:(⟨#[10]⟩:ByteArray).size=1:=rfl;omega
  rw[e];omega
section
variable {w wr w':World} {B hb b R B2 mb:Nat} {ten:Int} {I T:B4}
theorem U8.shows (h:U8 w wr B hb b ten R I B2 T mb) (hT:A3p wr) (hR:R≤1000) (hk:I.weak=[]) (hi:I.ids=[]):Calls Ze 19 #[.pointer (some ⟨hb,0,none⟩)] wr fun e w'=>e=.returned (.string (A2q I))∧A0 wr w':=by
 obtain⟨k,M,S,h1,X,h2,h3,h4⟩:=h.h;obtain⟨s1,s2⟩:=h1.hi.show h1.ai.inv h1.wf;obtain⟨D,f,hr⟩:=h1.hi;have z1:M.weak.length=0:=by rw[←hr.lenK,hk];rfl
 have z2:M.ids=[]:=by
  cases hm:M.ids with
  | nil=>rfl
  | cons y l =>
   obtain⟨u,hu,-⟩:=hr.ids2 y.1 y.2 (by rw[hm];simp);rw[hi] at hu;simp at hu
 refine (C2r hb b M S wr (h1.oh.mem.mem h1.ai.inv.ok) h1.oh.ptr (L8 h1.ai.inv.chk).1 (h1.ai.inv.few (by rw[h1.ai.roots];omega) (by omega) (by rw[z2];simp)) hT s2).mono ?_;rintro e w' ⟨he,hq⟩;rw[s1] at he;exact⟨he,hq⟩
theorem U8.mshow (h:U8 w wr B hb b ten R I B2 T mb) (hw:D5 T) (hl:T.V.length≤900) (hr:T.roots.length≤900):Calls Ze 20 #[.pointer (some ⟨mb,0,none⟩)] wr fun e w'=>e=.returned (.string (A2q T))∧A0 wr w':=by
 obtain⟨k,M,S,h1,X,h2,h3,h4⟩:=h.h;have hc:=C8s _ _ _ _ _ h3 hw (by omega) (by omega);rw[h2] at hc;exact hc
theorem U8.words (h:U8 w wr B hb b ten R I B2 T mb):Calls Ze 23 #[.pointer (some ⟨hb,0,none⟩)] wr fun e w'=>∃ t o:Int,e=.returned (.tuple #[.int .i64 t,.int .i64 o])∧o≤1000∧A0 wr w':=by
 obtain⟨k,M,S,h1,X,h2,h3,h4⟩:=h.h;refine (F8y wr h1.oh).mono ?_;rintro e w' ⟨he,hq⟩;exact⟨_,_,he,by have hs:=(K5 (L8 h1.ai.inv.chk).1).1;have:=hs.p2;have:=h1.ai.old;omega,hq⟩
end
theorem E2g (deep half card ten:Int) (w:World) (E:Nat→Addr) (hE:G4 E w) (hT:A3p w) :
  Calls Ze 6 #[.int .i64 deep,.int .i64 half,.int .i64 card,.int .i64 ten] w fun e w'=>e=.returned (.bool true)∧A0 w w':=by
 have HE:=Hz hE;have HT:=Hz hT;clear hE hT;have h9:deep<1∨(¬deep<1∧6<deep)∨(¬deep<1∧¬6<deep∧half<1)∨(¬deep<1∧¬6<deep∧¬half<1∧300<half)∨(¬deep<1∧¬6<deep∧¬half<1∧¬300<half∧card<1)∨(¬deep<1∧¬6<deep∧¬half<1∧¬300<half∧¬card<1∧64<card)∨(¬deep<1∧¬6<deep∧¬half<1∧¬300<half∧¬card<1∧¬64<card∧ten<0)∨(¬deep<1∧¬6<deep∧¬half<1∧¬300<half∧¬card<1∧¬64<card∧¬ten<0∧15<ten)∨(¬deep<1∧¬6<deep∧¬half<1∧¬300<half∧¬card<1∧¬64<card∧¬ten<0∧¬15<ten):=by omega
 rcases h9 with z1|⟨z1,z2⟩|⟨z1,z2,z3⟩|⟨z1,z2,z3,z4⟩|⟨z1,z2,z3,z4,z5⟩|⟨z1,z2,z3,z4,z5,z6⟩|⟨z1,z2,z3,z4,z5,z6,z7⟩|⟨z1,z2,z3,z4,z5,z6,z7,z8⟩|⟨z1,z2,z3,z4,z5,z6,z7,z8⟩;rotate_right
 ·obtain⟨d,hd⟩:∃ d:Nat,(d:Int)=deep:=⟨deep.toNat,by omega⟩;have hd1:1≤d:=by omega
  have hd6:d≤6:=by omega
  have hok:A1i half 1000 card=true:=by
   unfold A1i;rw[P0.2 ⟨by omega,by omega⟩,P0.2 ⟨by omega,by omega⟩,P0.2 ⟨by omega,by omega⟩];rfl
  have ht:0≤ten∧ten≤15:=by omega
  have HD1:=Hz hd1;have HD6:=Hz hd6;have HOK:=Hz hok;have OK:=Hz (F7t hd1 hd6);have f2:wrap64 (deep+2)=deep+2:=by rw[IntWalk.wrap64_in _ ⟨by omega,by omega⟩]
  have hdp:0<deep:=by omega
  have HD:=Hz hd;have hnw:=E2l half card ten d hok ht (by omega);rw[hd] at hnw;have HNW:=Hz hnw;have HTN:=Hz ht;have ID:=Hz (show F0 deep from by unfold F0;omega);clear hok ht hd hnw hd1 hd6
  go_enter Tryz.func6,Tryz.ntmps6
  go_upto_region 6 with (go_at_call 9;refine (C0u E _ HE.out HT.out).mono ?_;rintro e w1 ⟨rfl,hq⟩;have HX1:=Hz hq;clear hq)
  have V:=Hz (A5f.mk (w:=w) (B:=w1.heap.size) HE.out HTN.out ((HE.out.ext HX1.out).gb) HX1.out.size)
  go_upto_region 7 with (go_at_call 10;refine (HNW.out _).mono ?_;rintro e w2 ⟨hb,b,S0,rfl,h1,hq⟩;have I0:Hid (W7 w w2 w1.heap.size hb b 0 ten (d+2) (A3j half 1000 card (d+2)) S0 (B4.fresh (d+2))):=⟨h1,E2p half card d HOK.out (by have:=HD6.out;omega),C6m _ _ _ _,B7a _,HX1.out.trans_ hq⟩;clear h1 hq)
  have hgw:=E1p w E w1.heap.size hb b (d+2) ten V.out d (by have:=HD6.out;omega);rw[HD.out] at hgw;have GW:=Hz hgw;clear hgw
  go_upto_region 9 with (first
   | (go_at_call 24;refine (GW.out _ _ _ _ _ I0.out OK.out.grow).mono ?_;rintro e w3 ⟨rfl,k3,M3,S3,h3⟩;have I3:=Hz h3;clear h3)
   | (go_at_call 13;refine (I3.out.major V.out (by have h0:=OK.out.const 0 (by omega) (by have:=HD1.out;omega);exact (A9t h0 I3.out.wf).2.1)).mono ?_;rintro e w4 ⟨rfl,k4,M4,S4,h4,-⟩;have I4:=Hz h4;clear h4))
  go_upto_region 10 with (go_at_call 17;refine (E7r _).mono ?_;rintro e w5 ⟨X,rfl,h1,h2⟩;have R0:=Hz h1;have X0:=Hz h2;clear h1 h2)
  have q0:=R0.out.roots;rw[show (B4.fresh 1).roots.length=1 from rfl] at q0;have hto:=F7x w4 1 (d-1) (by have:=HD6.out;omega);rw[show ((d-1+1:Nat):Int)=deep by have:=HD1.out;have:=HD.out;omega] at hto;have TOF:=Hz hto;clear hto;refine wp_region_held_drew (S:=fun W=>W.cell? ⟨X.mb,0,none⟩=some (.slice (some ⟨X.G,0,none⟩) 1 1)) (by kernel_rfl) ?_ (fun hH=>?_)
  ·exact q0
  refine tJ 0 78 rfl ?_
  try simp only[A5]
  refine tJ 1 79 rfl ?_
  try simp only[A5]
  refine tJ 2 80 rfl ?_
  try simp only[A5]
  refine tJ 3 81 rfl ?_
  try simp only[A5]
  refine tJ 4 82 rfl ?_
  try simp only[A5]
  refine wpAnyH_ready (rs:=[5]) (by kernel_rfl) (by simp) ?_;refine AllReadyH.cons (o:=⟨some 83,_,_,_,_,_⟩) rfl (fun K hK=>?_) AllReadyH.nil;go_simp;refine (TOF.out _ (B4.fresh 1) X (R0.out.ext ((A0.refl _).drew_)) (X0.out.trans_ ((A0.refl _).drew_)) (B7a 1) (by have hpw:2^(d-1+1)≤2^6:=Nat.pow_le_pow_right (by omega) (by have:=HD6.out;omega);rw[show (B4.fresh 1).V.length=0 from rfl];omega)).mono ?_;rintro e w6 ⟨X6,q6,rfl,hq6,h6⟩;rw[show d-1+1=d by have:=HD1.out;omega] at h6;have hrl:(Z2 d (B4.fresh 1)).roots.length=1:=by rw[(A7k d (B4.fresh 1)).roots];rfl
  obtain⟨c0,c1,c2⟩:=h6.md.root 0 (by omega);have c3:=A2h h6.md.gblk;have u1:=h6.md.roots;rw[hrl] at u1;rw[h6.mb,h6.G] at u1;rw[h6.G] at c0 c1 c2 c3;have c4:X.G<w6.heap.size:=B9 c0;have qc:=B3c (a:=0) (by omega) X6.pl;rw[show X6.pl 0=q6 from hq6] at qc;obtain⟨hs7,hk7⟩:=h6.md.setR (r:=0) (by omega) qc.1 qc.2.1 qc.2.2;rw[h6.G] at hs7 hk7;obtain⟨w7,hw7⟩:∃ w7,((w6.setCell ⟨X.G,0,none⟩ (.int .i64 4)).setCell ⟨X.G,1,none⟩ (.int .i64 0)).setCell ⟨X.G,2,none⟩ (.pointer (some ⟨q6,0,none⟩))=w7:=⟨_,rfl⟩;have H7:Hid (E9 w7 w4.heap.size (Q5 d) 1 X6∧X6.mb=X.mb∧A0 w4 w7):=⟨by rw[←hw7];exact hs7,h6.mb,by rw[←hw7];exact A0.keep h6.ext hk7 fun i hi=>(h6.md.own hi).1⟩;have v1:w7.cell? ⟨X.mb,0,none⟩=some (.slice (some ⟨X.G,0,none⟩) 1 1):=by
   have h:=H7.out.1.roots;rw[h6.mb,h6.G,show (Q5 d).roots.length=1 from (by rw[OK.out.rT];rfl)] at h;exact h
  have H6:=Hz (And.intro c0 (And.intro c1 c2));clear h6 hs7 hk7 qc hrl hq6 H6;refine hK.out _ _ ?_ (fun hH=>?_)
  ·(try dsimp only);exact u1
  clear hK K
  try simp only[A5]
  refine tJ 6 84 rfl ?_
  try simp only[A5]
  refine tJ 7 85 rfl ?_
  try simp only[A5]
  refine wpAnyH_ready (rs:=[8]) (by kernel_rfl) (by simp) ?_;refine AllReadyH.cons (o:=⟨none,_,_,_,_,_⟩) rfl (fun K hK=>?_) AllReadyH.nil;go_simp;skip;refine hK.out _ _ ?_ (fun hH=>?_)
  ·(try dsimp only);exact v1
  clear hK K
  try simp only[A5]
  refine wpAnyH_done (by kernel_rfl) ?_ _;have HM7:Hid (U8 w w7 w1.heap.size hb b ten (d+2) (trG d) w4.heap.size (Q5 d) X.mb):=⟨k4,M4,S4,I4.out.at H7.out.2.2,X6,H7.out.2.1,H7.out.1,fun i hi hm=>by have h1:=(I4.out.oh.own hi).2;have:=(H7.out.1.own hm).1;omega⟩;clear hw7 c0 c1 c2 c3 c4 u1 v1 q0 TOF GW R0 X0 I0 I3 I4 H7
  go_upto_region 12 with fail
  go_loopg [13] (d+2) (fun r i wr=>∃ k,k+r=d+2∧i=.int .i64 ((k:Nat):Int)∧Hid (U8 w wr w1.heap.size hb b ten (d+2) (trC d k) w4.heap.size (Q5 d) X.mb))
  case atStart=>exact⟨0,by omega,rfl,HM7.out.at eX⟩
  case round =>
   clear HM7;obtain⟨k,hk,rfl,hM⟩:=hrel
   cases gk with
   | succ r =>
    have hlt:(k:Int)<deep+2:=by have:=HD.out;omega
    have HK:=Hz hk;have IK:=Hz (show F0 (k:Int) from B4d (by have:=HD6.out;omega));clear hk;by_cases he:(k:Int)=deep
    ·have hkd:k=d:=by have:=HD.out;omega
     go_wp2
     go_roundg r
     case measure=>omega
     case rel=>exact⟨k+1,by have:=HK.out;omega,by go_num,(show U8 w _ _ hb b ten (d+2) (trC d (k+1)) _ _ _ from by rw[show trC d (k+1)=trC d k from if_pos hkd];exact hM.out.at eX)⟩
    ·have hkd:¬k=d:=by have:=HD.out;omega
     have B1:=Hz (OK.out.const k (by have:=HK.out;omega) hkd)
     go_wp2_with (go_at_call 22;refine (hM.out.const V.out (k:Int) IK.out B1.out).mono ?_;rintro e w8 ⟨rfl,h8⟩;have HM8:=Hz h8;clear h8)
     go_roundg r
     case measure=>omega
     case rel=>exact⟨k+1,by have:=HK.out;omega,by go_num,(show U8 w _ _ hb b ten (d+2) (trC d (k+1)) _ _ _ from by rw[show trC d (k+1)=st .const (tx (k:Int) 0 0 0) (trC d k) from if_neg hkd];exact HM8.out.at eX)⟩
   | zero =>
    have hlt:¬(k:Int)<deep+2:=by have:=HD.out;omega
    have hkd:k=d+2:=by omega
    rw[hkd] at hM;have o1:=OK.out.copy;have o2:=OK.out.last;rw[HD.out] at o1 o2;have O1:=Hz o1;have O2:=Hz o2;clear hk hkd o1 o2
    go_upto_region 18 with (first
     | (go_at_call 21;refine (hM.out.copy V.out 0 deep (B4d (n:=0) (by omega)) ID.out O1.out).mono ?_;rintro e w8 ⟨rfl,h8⟩;have HM8:=Hz h8;clear h8)
     | (go_at_call 22;refine (HM8.out.const V.out deep ID.out (by have h:=O2.out;unfold trK at h;rw[HD.out] at h;exact h)).mono ?_;rintro e w9 ⟨rfl,h9⟩;have HM9:Hid (U8 w w9 w1.heap.size hb b ten (d+2) (trJ d) w4.heap.size (Q5 d) X.mb):=(by show U8 _ _ _ _ _ _ _ (st .const (tx (d:Int) 0 0 0) (st .copy (tx 0 (d:Int) 0 0) (trC d (d+2)))) _ _ _;rw[HD.out];exact h9);clear h9))
    have hvl:(Q5 d).V.length≤900:=by rw[←OK.out.V];exact (F6a OK.out.last:(trK d).V.length≤900)
    go_upto_region 21 with (first
     | (go_at_call 19;refine (HM9.out.shows (HT.out.ext HM9.out.ext) (by have:=HD6.out;omega) OK.out.wk OK.out.ids).mono ?_;rintro e w10 ⟨rfl,hq⟩;have HM10:=Hz (HM9.out.at hq);clear hq)
     | (go_at_call 20;refine (HM10.out.mshow (C7m HD1.out (by have:=HD6.out;omega)) hvl (by rw[OK.out.rT];simp)).mono ?_;rintro e w11 ⟨rfl,hq⟩;have HM11:=Hz (HM10.out.at hq);clear hq))
    obtain⟨hz1,hz2⟩:=F7u OK.out HD1.out (by have:=HD6.out;omega) hvl;have hsw:=F7v OK.out;obtain⟨s0,hs0⟩:∃ s0,A2q (Q5 d)=s0:=⟨_,rfl⟩;obtain⟨sh,hsh⟩:∃ sh,A2q (trJ d)=sh:=⟨_,rfl⟩;rw[hs0] at hz1 hz2 hsw ⊢;rw[hsh] at hsw ⊢;have HSW:=Hz hsw;have WZ:=Hz (D3e s0 hz1);have HX11:=Hz HM11.out.ext;have HZ1:=Hz hz1;have HZ2:=Hz hz2;clear hs0 hsh hsw hz1 hz2 hvl HM8 HM9 HM10 hM
    go_loopg [15,16] (d+1) (fun r q i wr=>∃ k,k+r=d+1∧q=.string (A4a s0 k)∧i=.int .i64 ((k+1:Nat):Int)∧Hid (U8 w wr w1.heap.size hb b ten (d+2) (trJ d) w4.heap.size (Q5 d) X.mb))
    case atStart=>exact⟨0,by omega,rfl,rfl,HM11.out.at eX⟩
    case round =>
     clear HM11;obtain⟨j,hj,rfl,rfl,hM⟩:=hrel;have hsz:=WZ.out j
     cases gk with
     | succ r =>
      have hlt:((j+1:Nat):Int)<deep+2:=by have:=HD.out;omega
      have HJ:=Hz hj;have hj6:j≤6:=by have:=HD6.out;omega
      have hwe:A4a s0 (j+1)=(trA++trN)++(A4a s0 j).extract 8 (A4a s0 j).size:=rfl;have HWE:=Hz hwe;obtain⟨wt,hwt⟩:∃ wt,A4a s0 j=wt:=⟨_,rfl⟩;have hz1:=HZ1.out;have hz2:=HZ2.out;rw[hwt] at hsz HWE ⊢;have hw8:8≤wt.size:=by omega
      have hwx:(wt.extract 8 wt.size).size≤1000100:=by rw[ByteArray.size_extract];omega
      have sz1:¬9223372036854775807<18+(wt.extract 8 wt.size).size:=by omega
      have sz2:¬9223372036854775807<18+(wt.size-8):=by omega
      clear hj hwt hwe hz1 hz2 hwx;go_wp2
      go_roundg r
      case measure=>omega
      case rel=>exact⟨j+1,by have:=HJ.out;omega,by rw[HWE.out,hsz];rfl,by go_num,hM.out.at eX⟩
     | zero =>
      have hlt:¬((j+1:Nat):Int)<deep+2:=by have:=HD.out;omega
      have hjd:j=d+1:=by omega
      have hwj:A4a s0 j=sh:=by rw[hjd];exact HSW.out.symm
      rw[hwj];clear hj hsz hwj
      go_wp2_with (go_at_call 23;refine (hM.out.words).mono ?_;rintro e w12 ⟨tt,oo,rfl,ho,hq⟩;have HX12:=Hz (hM.out.ext.trans_ hq);have ho2:oo≤1000:=ho;clear hq)
      go_ret;exact⟨by simp,HX12.out⟩
 all_goals
  go_enter Tryz.func6,Tryz.ntmps6
  go_wp2_with (go_at_call 9;refine (C0u E _ HE.out HT.out).mono ?_;rintro e w1 ⟨rfl,hq⟩;have HX1:=Hz hq;clear hq)
  go_ret;exact⟨rfl,HX1.out⟩
end Go.Proofs.YtelhoppfidibiaaGreatDoor
