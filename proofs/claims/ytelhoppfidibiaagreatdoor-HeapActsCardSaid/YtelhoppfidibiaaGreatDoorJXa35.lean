/- A memory among the arguments: what its reading tells of the world. -/
import Derived.Deep.SlicePairs
import Derived.Test.YtelhoppfidibiaaGreatDoorJXa34
import Derived.Test.YtelhoppfidibiaaGreatDoorRows
set_option linter.unusedSectionVars false
set_option linter.unusedSimpArgs false
set_option linter.unusedVariables false
namespace Go.Proofs.YtelhoppfidibiaaGreatDoor
open Bool renaming and_eq_true→Za,and_eq_true_iff→Zb
open Int renaming toNat_natCast→Zc
open List renaming getD_eq_getElem?_getD→Zd,getElem?_eq_getElem→Ze,getElem?_map→Zf,getElem_mem→Zg,length_set→Zh,mem_append→Zi,mem_singleton→Zj,singleton_inj→Zk
open Nat renaming add_assoc→Zl,le_refl→Zm
open Go.Proofs.Tryz renaming prog→Zn
open Go.ChangeShapes Go.WideShapes Go.RowKit Go.Deep
section
variable {H:Type} {enc:TypeId × Value→H} {w:World} {base:Nat} {spare:Nat→Bool} {held:Bool}
end
open Go.ChangeShapes Go.WideShapes Go.RowKit Go.Deep Go.Joins
structure E4 where
 nm:ByteArray
 a:Int
 b:Int
 c:Int
 n:Int
 s:ByteArray
instance:Inhabited E4:=⟨⟨⟨#[]⟩,0,0,0,0,⟨#[]⟩⟩⟩
def B5m (w:World) (g o:Nat) (x:E4):Prop :=
 w.cell? ⟨g,o,none⟩=some (.string x.nm)∧w.cell? ⟨g,o+1,none⟩=some (.int .i64 x.a)∧w.cell? ⟨g,o+2,none⟩=some (.int .i64 x.b)∧w.cell? ⟨g,o+3,none⟩=some (.int .i64 x.c) ∧
  w.cell? ⟨g,o+4,none⟩=some (.int .i64 x.n)∧w.cell? ⟨g,o+5,none⟩=some (.string x.s)
structure B1h (w:World) (A:Option Addr) (l:List E4):Prop where
 at_:∀ (i:Nat) (h:i<l.length),∃ g o,A=some ⟨g,o,none⟩∧B5m w g (o+i*6) l[i]
 nums:∀ x∈l,F0 x.a∧F0 x.b∧F0 x.c∧F0 x.n
 len:l.length≤9223372036854775807
theorem B1h.ext {w w':World} {A:Option Addr} {l:List E4} (h:B1h w A l) (hx:A0 w w'):B1h w' A l :=
 ⟨fun i hi=>by
  obtain⟨g,o,e,h0,h1,h2,h3,h4,h5⟩:=h.at_ i hi;exact⟨g,o,e,hx.cell_ h0,hx.cell_ h1,hx.cell_ h2,hx.cell_ h3,hx.cell_ h4,hx.cell_ h5⟩,h.nums,h.len⟩
section
variable {H:Type} {enc:TypeId × Value→H} {P:Program} {w:World} {base:Nat} {spare:Nat→Bool} {held:Bool}
theorem E9e {t:TypeId} {f0 f1 f2 f3 f4 f5:Field} {fuel:Nat} {cs:List Value} {x:DataW H × List MemPlace} (ht:P.underlying t=some (.struct #[f0,f1,f2,f3,f4,f5])) (hone:oneCellFields P #[f0,f1,f2,f3,f4,f5]=true) (hC:P.cellsOf t=6)
  (h:DataW.trod enc P w base spare held fuel t cs=some x) :
  ∃ (v0 v1 v2 v3 v4 v5:Value) (y0 y1 y2 y3 y4 y5:DataW H × List MemPlace) (n:Nat),cs=[v0,v1,v2,v3,v4,v5]∧x.1=.agg [y0.1,y1.1,y2.1,y3.1,y4.1,y5.1] ∧
   DataW.trod enc P w base spare held n f0.type [v0]=some y0∧DataW.trod enc P w base spare held n f1.type [v1]=some y1∧DataW.trod enc P w base spare held n f2.type [v2]=some y2 ∧
   DataW.trod enc P w base spare held n f3.type [v3]=some y3∧DataW.trod enc P w base spare held n f4.type [v4]=some y4∧DataW.trod enc P w base spare held n f5.type [v5]=some y5:=by
 obtain⟨xs,n,_,rfl,hl,hlen,hf⟩:=DataW.trod_struct ht h;rw[hC] at hl;obtain⟨o0,k0⟩:=hone_of hone 0 f0 rfl;obtain⟨o1,k1⟩:=hone_of hone 1 f1 rfl;obtain⟨o2,k2⟩:=hone_of hone 2 f2 rfl;obtain⟨o3,k3⟩:=hone_of hone 3 f3 rfl;obtain⟨o4,k4⟩:=hone_of hone 4 f4 rfl;obtain⟨o5,k5⟩:=hone_of hone 5 f5 rfl
 match xs,hlen,cs,hl with
 | [y0,y1,y2,y3,y4,y5],_,[v0,v1,v2,v3,v4,v5],_ =>
  exact⟨v0,v1,v2,v3,v4,v5,y0,y1,y2,y3,y4,y5,n,rfl,by simp,by simpa [o0,k0] using hf 0 f0 rfl,by simpa [o1,k1] using hf 1 f1 rfl,by simpa [o2,k2] using hf 2 f2 rfl,by simpa [o3,k3] using hf 3 f3 rfl,by simpa [o4,k4] using hf 4 f4 rfl,by simpa [o5,k5] using hf 5 f5 rfl⟩
theorem F0o {fuel:Nat} {v:Value} {x:DataW H × List MemPlace} (h:DataW.trod enc Zn w base spare held fuel 58 [v]=some x) :
  ∃ (a:Option Addr) (c:Nat) (l:List E4),v=.slice a l.length c∧B1h w a l:=by
 rcases open_slice (e:=41) (by kernel_rfl) h with⟨hcs,_⟩|⟨a,len,cap,m,n,D,Pl,hcs,_,hl,hm,hmm,hx0,hx⟩
 ·obtain rfl:=Zk.1 hcs;exact⟨none,0,[],rfl,⟨fun i hi=>by simp at hi,by simp,by simp⟩⟩
 ·obtain rfl:=Zk.1 hcs;have hle:len≤m:=by rw[hmm];split<;>omega
  have hb:∀ i,i<len→∃ q:E4,(w.cell? (a.add (i*6))=some (.string q.nm)∧w.cell? (a.add (i*6+1))=some (.int .i64 q.a)∧w.cell? (a.add (i*6+2))=some (.int .i64 q.b) ∧
    w.cell? (a.add (i*6+3))=some (.int .i64 q.c)∧w.cell? (a.add (i*6+4))=some (.int .i64 q.n)∧w.cell? (a.add (i*6+5))=some (.string q.s))∧F0 q.a∧F0 q.b∧F0 q.c∧F0 q.n:=fun i hi=>by
   obtain⟨cs',h1,h2⟩:=hx i (by omega);rw[show Zn.cellsOf 41=6 by kernel_rfl] at h1;obtain⟨_,hlen,hcell⟩:=World.cells?_some h1;obtain⟨v0,v1,v2,v3,v4,v5,y0,y1,y2,y3,y4,y5,k,rfl,hdx,t0,t1,t2,t3,t4,t5⟩:=E9e (Tryz.underlying41) (by kernel_rfl) (by kernel_rfl) h2;obtain⟨s0,e0,d0,_⟩:=DataW.trod_string (by kernel_rfl) t0;obtain⟨n1,e1,_,w1⟩:=DataW.trod_int (k:=.i64) (by kernel_rfl) t1;obtain⟨n2,e2,_,w2⟩:=DataW.trod_int (k:=.i64) (by kernel_rfl) t2;obtain⟨n3,e3,_,w3⟩:=DataW.trod_int (k:=.i64) (by kernel_rfl) t3;obtain⟨n4,e4,_,w4⟩:=DataW.trod_int (k:=.i64) (by kernel_rfl) t4;obtain⟨s5,e5,d5,_⟩:=DataW.trod_string (by kernel_rfl) t5;obtain rfl:=Zk.1 e0;obtain rfl:=Zk.1 e1;obtain rfl:=Zk.1 e2;obtain rfl:=Zk.1 e3;obtain rfl:=Zk.1 e4;obtain rfl:=Zk.1 e5;have c0:=hcell 0 (by omega);have c1:=hcell 1 (by omega);have c2:=hcell 2 (by omega);have c3:=hcell 3 (by omega);have c4:=hcell 4 (by omega);have c5:=hcell 5 (by omega);rw[add_add] at c0 c1 c2 c3 c4 c5;exact⟨⟨s0,n1,n2,n3,n4,s5⟩,⟨by simpa using c0,by simpa using c1,by simpa using c2,by simpa using c3,by simpa using c4,by simpa using c5⟩,B8t w1,B8t w2,B8t w3,B8t w4⟩
  obtain⟨B,hB⟩:=choose_lt hb;have hln:((List.range len).map B).length=len:=by simp
  refine⟨some a,cap,(List.range len).map B,by rw[hln],⟨fun i hi=>?_,fun z hz=>?_,by rw[hln];unfold maxLen at hm;omega⟩⟩
  ·rw[hln] at hi;obtain⟨⟨h0,h1,h2,h3,h4,h5⟩,-⟩:=hB i hi;obtain⟨g,o,spot⟩:=a;have hs:spot=none:=by simpa [Addr.add] using World.cell?_spot (hB 0 (by omega)).1.1
   subst hs;have e:((List.range len).map B)[i]'(by rw[hln];exact hi)=B i:=by simp
   rw[e];have h0':w.cell? ⟨g,o+i*6,none⟩=some (.string (B i).nm):=by
    by_cases e:i=0
    ·subst e;simpa [Addr.add] using h0
    ·simpa [Addr.add,show ¬i*6=0 by omega] using h0
   exact⟨g,o,rfl,h0',by simpa [Addr.add,Zl] using h1,by simpa [Addr.add,Zl] using h2,by simpa [Addr.add,Zl] using h3,by simpa [Addr.add,Zl] using h4,by simpa [Addr.add,Zl] using h5⟩
  ·obtain⟨i,hi,rfl⟩:=List.mem_map.1 hz;exact (hB i (List.mem_range.1 hi)).2
end
open Go.RowKit
inductive AK where
 | int|const|text|make|copy|get|put|minor|major|serial|weak|look|other
def E5 (I:B4) (r:Int):Bool:=decide (0≤r)&&decide (r<(I.roots.length:Int))
def A3r (I:B4) (r f:Int):Int :=
 if 0≤B6 (I.roots.getD r.toNat 0) then (if D2 (B3 (A6 I.V (B6 (I.roots.getD r.toNat 0)).toNat)) then 3 else if 0≤f∧f<B5 (A6 I.V (B6 (I.roots.getD r.toNat 0)).toNat) then 0 else 2) else 3
def A3b (I:B4) (r:Int):Int:=if 0≤B6 (I.roots.getD r.toNat 0) then 0 else 3
def I5 (I:B4):AK→E4→Int
 | .int,x=>if E5 I x.a then 0 else 5
 | .const,x=>if E5 I x.a then (if 0≤x.b∧x.b≤2 then 0 else 2) else 5
 | .text,x=>if E5 I x.a then (if x.s.size≤2000 then 0 else 2) else 5
 | .make,x=>if E5 I x.a then (if x.b<8∨255<x.b∨x.c<0∨4096<x.c then 2 else 0) else 5
 | .copy,x=>if E5 I x.a&&E5 I x.b then 0 else 5
 | .get,x=>if E5 I x.a&&E5 I x.c then A3r I x.a x.b else 5
 | .put,x=>if E5 I x.a&&E5 I x.c then A3r I x.a x.b else 5
 | .serial,x=>if E5 I x.a then A3b I x.a else 5
 | .weak,x=>if E5 I x.a then A3b I x.a else 5
 | .look,x=>if (decide (0≤x.a)&&decide (x.a<(I.weak.length:Int)))&&E5 I x.b then 0 else 5
 | _,_=>0
def U5:AK→E4→Int
 | .int,x=>if U2 x.n then 0 else 2
 | .text,x=>2+(x.s.size+7)/8
 | .make,x=>1+x.c
 | _,_=>0
def A0s (I:B4) (p:Int):Option Int:=(I.ids.find? fun x=>B6 x.1==p).map (·.2)
def A8n (I:B4) (nx:Int):AK→E4→Int
 | .serial,x=>(A0s I (B6 (I.roots.getD x.a.toNat 0))).getD nx
 | .weak,_=>(I.weak.length:Int)
 | _,_=>0
def A9b (I:B4) (r f:Int):Nat:=(B6 (I.roots.getD r.toNat 0)).toNat+1+f.toNat
def Z8 (I:B4):AK→E4→Bool→B4
 | .int,x,_=>I.int x.a.toNat x.n
 | .const,x,_=>I.setR x.a.toNat (P3 x.b)
 | .text,x,_=>I.text x.a.toNat x.s
 | .make,x,_=>(I.new x.b (List.replicate x.c.toNat 2)).setR x.a.toNat (D3 (I.V.length:Int))
 | .copy,x,_=>I.setR x.a.toNat (I.roots.getD x.b.toNat 0)
 | .get,x,_=>I.setR x.c.toNat (A6 I.V (A9b I x.a x.b))
 | .put,x,_=>I.put (A9b I x.a x.b) (I.roots.getD x.c.toNat 0)
 | .weak,x,_=>I.addWeak (I.roots.getD x.a.toNat 0)
 | .look,x,is=>I.setR x.b.toNat (if is then I.weak.getD x.a.toNat 0 else 2)
 | _,_,_=>I
def A4k (I:B4) (nx:Int) (x:E4):B4 × Int:=match A0s I (B6 (I.roots.getD x.a.toNat 0)) with
 | some _=>(I,nx)
 | none=>(I.addId (I.roots.getD x.a.toNat 0) nx,nx+1)
def doN (I:B4) (nx:Int):AK→E4→Bool→B4 × Int
 | .serial,x,_=>A4k I nx x
 | k,x,is=>(Z8 I k x is,nx)
section
variable (I:B4) (x:E4) (is:Bool) (nx:Int)
theorem C0b:I5 I .int x=if E5 I x.a then 0 else 5:=rfl
theorem A9a:I5 I .const x=if E5 I x.a then (if 0≤x.b∧x.b≤2 then 0 else 2) else 5:=rfl
theorem A7y:I5 I .text x=if E5 I x.a then (if x.s.size≤2000 then 0 else 2) else 5:=rfl
theorem A7x:I5 I .make x=if E5 I x.a then (if x.b<8∨255<x.b∨x.c<0∨4096<x.c then 2 else 0) else 5:=rfl
theorem B3p:I5 I .copy x=if E5 I x.a&&E5 I x.b then 0 else 5:=rfl
theorem B3q:I5 I .get x=if E5 I x.a&&E5 I x.c then A3r I x.a x.b else 5:=rfl
theorem B3r:I5 I .put x=if E5 I x.a&&E5 I x.c then A3r I x.a x.b else 5:=rfl
theorem B3s:I5 I .serial x=if E5 I x.a then A3b I x.a else 5:=rfl
theorem B3t:I5 I .weak x=if E5 I x.a then A3b I x.a else 5:=rfl
theorem B6d:I5 I .look x=if (decide (0≤x.a)&&decide (x.a<(I.weak.length:Int)))&&E5 I x.b then 0 else 5:=rfl
theorem C4u:Z8 I .make x is=(I.new x.b (List.replicate x.c.toNat 2)).setR x.a.toNat (D3 (I.V.length:Int)):=rfl
theorem C4t:Z8 I .get x is=I.setR x.c.toNat (A6 I.V (A9b I x.a x.b)):=rfl
theorem C4v:Z8 I .put x is=I.put (A9b I x.a x.b) (I.roots.getD x.c.toNat 0):=rfl
theorem C4w:Z8 I .weak x is=I.addWeak (I.roots.getD x.a.toNat 0):=rfl
theorem B7l:A8n I nx .serial x=(A0s I (B6 (I.roots.getD x.a.toNat 0))).getD nx:=rfl
theorem E7b:A8n I nx .weak x=(I.weak.length:Int):=rfl
theorem C0h:U5 .int x=if U2 x.n then 0 else 2:=rfl
theorem C0i:U5 .text x=2+(x.s.size+7)/8:=rfl
theorem C5x:U5 .make x=1+x.c:=rfl
theorem D1k {s:Int} (h:A0s I (B6 (I.roots.getD x.a.toNat 0))=some s):doN I nx .serial x is=(I,nx):=by
 show A4k I nx x=_;unfold A4k;rw[h]
theorem D1j (h:A0s I (B6 (I.roots.getD x.a.toNat 0))=none):doN I nx .serial x is=(I.addId (I.roots.getD x.a.toNat 0) nx,nx+1):=by
 show A4k I nx x=_;unfold A4k;rw[h]
end
def J2 (M N:A7):Prop:=M.weak.length≤N.weak.length∧∀ i,i<M.weak.length→M.weak.getD i 0=2→N.weak.getD i 0=2
theorem J2.refl (M:A7):J2 M M:=⟨Zm _,fun i _ h=>h⟩
theorem J2.of_eq {M N:A7} (h:N.weak=M.weak):J2 M N:=by
 unfold J2;rw[h];exact⟨Zm _,fun i _ q=>q⟩
theorem J2.trans {M N K:A7} (h:J2 M N) (k:J2 N K):J2 M K:=⟨Nat.le_trans h.1 k.1,fun i hi q=>k.2 i (Nat.lt_of_lt_of_le hi h.1) (h.2 i hi q)⟩
theorem J2.moved {M N:A7} {go:Int→Int × Bool} {E:Nat→Prop} {g:Nat→Nat} (hm:A7q M N go E g):J2 M N:=by
 obtain⟨all,hk⟩:=hm.kept;refine⟨by rw[hk.weak,List.length_map];exact Zm _,fun i hi h2=>?_⟩;rw[hk.weak,Zd,Zf,Ze hi];have e:M.weak[i]=2:=by rw[Zd,Ze hi] at h2;exact h2
 simp only[Option.map_some,Option.getD_some,e,hm.two];rfl
section
variable {I:B4} {M:A7} {D:Nat→Prop} {f:Nat→Nat} {ten nx old:Int}
theorem J2.major (hI:D6 M nx):J2 M (A1y M):=by
 unfold A1y
 split
 ·rename_i hl;exact J2.moved (C1o (hI.full hl))
 ·exact J2.refl M
theorem J2.minor (ht:0≤ten∧ten≤15) (hI:D6 M nx):J2 M (A4x M ten):=by
 unfold A4x
 split
 ·rename_i hl;exact J2.moved (C1q (M:=M) (ten:=ten) ⟨hI.ok,hI.chk,ht,by assumption⟩)
 ·exact J2.major hI
theorem J2.o1 (ht:0≤ten∧ten≤15) (hI:D6 M nx) (n:Int):J2 M (T6 M ten n):=by
 unfold T6
 split
 ·exact J2.minor ht hI
 ·exact J2.refl M
theorem J2.mid (ht:0≤ten∧ten≤15) (hI:D6 M nx) (sz:Nat):J2 M (Y8 M ten sz):=by
 refine (J2.o1 ht hI (1+sz)).trans ?_;unfold Y8 o2M
 split
 ·exact J2.major (B0t ht hI).1
 ·exact J2.refl _
theorem J2.obj (ht:0≤ten∧ten≤15) (hI:D6 M nx) (kind:Int) (sz:Nat):J2 M (J1 M ten kind sz):=by
 unfold J1
 split
 ·refine (J2.mid ht hI sz).trans (J2.of_eq ?_);unfold o3M
  split<;>rfl
 ·split
  ·exact J2.mid ht hI sz
  ·exact J2.o1 ht hI _
theorem C1l (M:A7):A1x M=0∨A1x M=6:=by unfold A1x;split<;>simp
theorem C8m (M:A7):A4f M=0∨A4f M=6:=by
 unfold A4f;split
 ·simp
 ·exact C1l M
theorem C1y (M:A7) (ten:Int) (sz:Nat):J0 M ten sz=0∨J0 M ten sz=6:=by
 unfold J0
 split
 ·split
  ·unfold o3C
   split
   ·simp
   ·split<;>simp
  ·unfold o2C
   split
   ·exact C1l _
   ·simp
 ·unfold o1C
  split
  ·exact C8m _
  ·simp
theorem Holds.rootB (h:Holds I M) (r:Int):rootB M r=E5 I r:=by
 obtain⟨D,f,h⟩:=h;unfold E5;rw[h.lenR]
 cases hb:Go.Proofs.YtelhoppfidibiaaGreatDoor.rootB M r with
 | true =>
  obtain⟨h1,h2⟩:=Y2.1 hb;rw[decide_eq_true h1,decide_eq_true h2];rfl
 | false =>
  symm
  rw[Bool.and_eq_false_iff,decide_eq_false_iff_not,decide_eq_false_iff_not];refine Classical.byContradiction fun q=>?_
  rw[not_or,Classical.not_not,Classical.not_not] at q;rw[Y2.2 q] at hb
  cases hb
theorem K7.ptr (h:K7 I M D f) (hg:goodB M=true) {r:Nat} (hr:r<I.roots.length):(0≤B6 (I.roots.getD r 0)→∃ a:Nat,B6 (I.roots.getD r 0)=(a:Int)∧D a∧C9 (M.roots.getD r 0)=(f a:Int)∧A1k (M.roots.getD r 0)=true)∧(B6 (I.roots.getD r 0)<0→A1k (M.roots.getD r 0)=false):=by
 refine⟨fun q=>?_,fun q=>?_⟩
 ·obtain⟨a,ha⟩:∃ a:Nat,B6 (I.roots.getD r 0)=(a:Int):=⟨(B6 (I.roots.getD r 0)).toNat,by omega⟩;obtain⟨h1,h2,h3⟩:=h.root_at hr ha;exact⟨a,ha,h1,(B0w h2).2.2,E9s h2⟩
 ·have e:=h.root_no hr q;rw[←e] at q
  cases hp:A1k (M.roots.getD r 0) with
  | false=>rfl
  | true =>
   unfold A1k at hp;simp only[Za,beq_iff_eq,bne_iff_ne] at hp;obtain⟨a,ha,-⟩:=C5p hg (A4d (K5 hg).2.2.1 (by rw[←h.lenR];exact hr)) hp.1 hp.2;omega
theorem Holds.headC (h:Holds I M) (hI:D6 M nx) (r:Int):headC M r=if E5 I r then A3b I r else 5:=by
 have hb:=h.rootB r;obtain⟨D,f,h⟩:=h;unfold Go.Proofs.YtelhoppfidibiaaGreatDoor.headC;rw[hb]
 cases hr:E5 I r with
 | false=>rfl
 | true =>
  have hr2:r.toNat<I.roots.length:=by
   unfold E5 at hr;simp only[Za,decide_eq_true_eq] at hr;omega
  obtain⟨p1,p2⟩:=h.ptr (L8 hI.chk).1 hr2;unfold A3b;by_cases q:0≤B6 (I.roots.getD r.toNat 0)
  ·obtain⟨a,-,-,-,e⟩:=p1 q;rw[if_pos q,e];rfl
  ·rw[if_neg q,p2 (by omega)];rfl
theorem Holds.fieldC (h:Holds I M) (hI:D6 M nx) (r f s:Int):fieldC M r f s=if E5 I r&&E5 I s then A3r I r f else 5:=by
 have hb:=h.rootB r;have hb2:=h.rootB s;obtain⟨D,g,h⟩:=h;unfold Go.Proofs.YtelhoppfidibiaaGreatDoor.fieldC;rw[hb,hb2]
 cases hr:(E5 I r&&E5 I s) with
 | false=>rfl
 | true =>
  have hr2:r.toNat<I.roots.length:=by
   have hr:=(Zb.1 hr).1;unfold E5 at hr;simp only[Za,decide_eq_true_eq] at hr;omega
  obtain⟨p1,p2⟩:=h.ptr (L8 hI.chk).1 hr2;unfold A3r;by_cases q:0≤B6 (I.roots.getD r.toNat 0)
  ·obtain⟨a,e1,e2,e3,e4⟩:=p1 q;simp only[if_true,if_pos q];rw[e3,e4,e1,Zc,Zc,h.morph.kind a e2,h.morph.size a e2]
   cases D2 (B3 (A6 I.V a))<;>rfl
  ·rw[if_neg q,p2 (by omega)];rfl
theorem A0i {r:Int} (h:E5 I r=true):∃ rn:Nat,r=(rn:Int)∧rn<I.roots.length:=by
 unfold E5 at h;simp only[Za,decide_eq_true_eq] at h;exact⟨r.toNat,by omega,by omega⟩
theorem B1s {r f:Int} (hr:E5 I r=true) (hc:A3r I r f=0):∃ a k rn:Nat,r=(rn:Int)∧f=(k:Int)∧B5r I rn a k∧A9b I r f=a+1+k:=by
 obtain⟨rn,rfl,hl⟩:=A0i hr;unfold A3r at hc;rw[Zc] at hc
 split at hc
 ·rename_i q
  split at hc
  ·cases hc
  ·rename_i q2
   split at hc
   ·rename_i q3;obtain⟨a,ha⟩:∃ a:Nat,B6 (I.roots.getD rn 0)=(a:Int):=⟨(B6 (I.roots.getD rn 0)).toNat,by omega⟩;rw[ha,Zc] at q2 q3;refine⟨a,f.toNat,rn,rfl,by omega,⟨hl,ha,by simpa using q2,by unfold A9;omega⟩,?_⟩;unfold A9b;rw[Zc,ha,Zc]
   ·cases hc
 ·cases hc
theorem D0q {v s t:Int}:∀ l:List (Int × Int),l.Pairwise A6g→(v,s)∈l→(v,t)∈l→s=t
 | [],_,h,_=>by simp at h
 | x::l,hp,h1,h2=>by
  obtain⟨p1,p2⟩:=List.pairwise_cons.1 hp;rcases List.mem_cons.1 h1 with q1|q1<;>rcases List.mem_cons.1 h2 with q2|q2
  ·rw[←q2] at q1;exact (Prod.mk.inj q1).2
  ·have:=(p1 _ q2).1;rw[←q1] at this;exact absurd rfl this
  ·have:=(p1 _ q1).1;rw[←q2] at this;exact absurd rfl this
  ·exact D0q l p2 q1 q2
theorem E3e {M:A7} (hg:goodB M=true) {v s t:Int} (h1:(v,s)∈M.ids) (h2:(v,t)∈M.ids):s=t :=
 D0q M.ids ((A4t _ _ _).1 (K5 hg).2.2.2.2.2).2 h1 h2
theorem K7.serI_old (h:K7 I M D f) (hg:goodB M=true) {r a i:Nat} (hr:r<I.roots.length) (hp:B6 (I.roots.getD r 0)=(a:Int)) (hi:i<M.ids.length) (he:(M.ids.getD i (0,0)).1=M.roots.getD r 0):A0s I (a:Int)=some (M.ids.getD i (0,0)).2:=by
 obtain⟨u,hu,hpu⟩:=h.ser_old hr hp hi he;obtain⟨r1,r2,-⟩:=h.root_at hr hp;unfold A0s
 cases hf:I.ids.find? (fun x=>B6 x.1==(a:Int)) with
 | none =>
  have:=List.find?_eq_none.1 hf _ hu;simp[hpu] at this
 | some x =>
  obtain⟨x1,x2⟩:=x;have hm:=List.mem_of_find?_eq_some hf;have hx:=List.find?_some hf;simp only[beq_iff_eq] at hx;obtain⟨v,c,hv⟩:=h.ids1 x1 x2 hm a hx r1;have hv2:v=M.roots.getD r 0:=by
   rcases c with⟨q,-⟩|⟨b,c1,c2,c3,-⟩
   ·omega
   ·obtain rfl:b=a:=by omega
    exact (B2i c3).trans (B2i r2).symm
  show some x2=_;congr 1;have hm2:((M.ids.getD i (0,0)).1,(M.ids.getD i (0,0)).2)∈M.ids:=by
   rw[Zd,Ze hi];exact Zg hi
  rw[he] at hm2;rw[hv2] at hv;exact E3e hg hv hm2
theorem K7.serI_new (h:K7 I M D f) {r a:Nat} (hr:r<I.roots.length) (hp:B6 (I.roots.getD r 0)=(a:Int)) (hn:∀ x∈M.ids,x.1≠M.roots.getD r 0):A0s I (a:Int)=none:=by
 have e:I.ids.find? (fun x=>B6 x.1==(a:Int))=none:=List.find?_eq_none.2 fun x hx=>by
  have:=(h.ser_new hr hp hn 0).1 x.1 x.2 hx;simpa using this
 unfold A0s;rw[e];rfl
end
structure A5q (I:B4) (nx old:Int) (M:A7) (ak:AK) (x:E4) (c n:Int) (is:Bool) (I':B4) (nx':Int) (M':A7):Prop where
 holds:Holds I' M'
 wk:J2 M M'
 res:(c=0∧I5 I ak x=0∧n=A8n I nx ak x∧(I',nx')=doN I nx ak x is)∨(c≠0∧n=0∧is=false∧I'=I∧nx'=nx∧((c=6∧I5 I ak x=0∧old<(A1w I:Int)+U5 ak x)∨(c≠6∧I5 I ak x=c)))
 lookT:ak=.look→c=0→is=true→C7 (M.weak.getD x.a.toNat 0)=0
 lookF:ak=.look→c=0→is=false→M.weak.getD x.a.toNat 0=2∧∀ a:Nat,B6 (I.weak.getD x.a.toNat 0)=(a:Int)→¬a∈(K4 I).map (·.a)
 plain:ak≠.look→is=false
def U0 (w:World) (B hb b:Nat) (S:C8) (E:Nat→Addr) (ten old:Int) (R k:Nat) (I:B4) (nx:Int) (M:A7) (ak:AK) (x:E4) (V:Int→Bool→Value→Value) (e:Ending) (w':World):Prop :=
 ∃ c n is M' S' I' nx',e=.returned (V n is (F1 E c))∧E7 w' B hb b M' S' ten nx'∧D7 hb b w S w' S'∧AI M' nx' old R (k+1)∧A5q I nx old M ak x c n is I' nx' M'
def V1 (_:Int) (_:Bool) (v:Value):Value:=v
def V2 (n:Int) (_:Bool) (v:Value):Value:=.tuple #[.int .i64 n,v]
def V3 (_:Int) (is:Bool) (v:Value):Value:=.tuple #[.bool is,v]
section
variable {B hb b:Nat} {M:A7} {S:C8} {E:Nat→Addr} {ten nx old c:Int} {R k:Nat} {w:World} {I:B4} {ak:AK} {x:E4} {V:Int→Bool→Value→Value}
theorem A4p {e:Ending} {w':World} (h:R8 w B hb b S ten M nx (V 0 false (F1 E c)) e w') (hH:Holds I M) (hA:AI M nx old R k) (hc:c≠0) (hc6:c≠6) (he:I5 I ak x=c):U0 w B hb b S E ten old R k I nx M ak x V e w':=by
 obtain⟨rfl,S',h1,h2⟩:=h;exact⟨c,0,false,M,S',I,nx,rfl,h1,h2,hA.self,hH,J2.refl M,Or.inr ⟨hc,rfl,rfl,rfl,rfl,Or.inr ⟨hc6,he⟩⟩,fun _ q=>absurd q hc,fun _ q=>absurd q hc,fun _=>rfl⟩
theorem B3f {e:Ending} {w':World} {M':A7} (h:R8 w B hb b S ten M' nx (V 0 false (F1 E c)) e w') (hc6:c=6) (hH:Holds I M') (hA:AI M' nx old R (k+1)) (hwk:J2 M M') (he:I5 I ak x=0) (hv:old<(A1w I:Int)+U5 ak x):U0 w B hb b S E ten old R k I nx M ak x V e w':=by
 obtain⟨rfl,S',h1,h2⟩:=h;subst hc6;exact⟨6,0,false,M',S',I,nx,rfl,h1,h2,hA,hH,hwk,Or.inr ⟨by decide,rfl,rfl,rfl,rfl,Or.inl ⟨rfl,he,hv⟩⟩,fun _ q=>by omega,fun _ q=>by omega,fun _=>rfl⟩
theorem A5h {e:Ending} {w':World} {M':A7} {I':B4} {nx' n:Int} (h:R8 w B hb b S ten M' nx' (V n false (F1 E c)) e w') (hc:c=0) (hH:Holds I' M') (hA:AI M' nx' old R (k+1)) (hwk:J2 M M') (he:I5 I ak x=0) (hn:n=A8n I nx ak x) (hd:(I',nx')=doN I nx ak x false) (hk:ak≠.look):U0 w B hb b S E ten old R k I nx M ak x V e w':=by
 obtain⟨rfl,S',h1,h2⟩:=h;exact⟨c,n,false,M',S',I',nx',rfl,h1,h2,hA,hH,hwk,Or.inl ⟨hc,he,hn,hd⟩,fun q=>absurd q hk,fun q=>absurd q hk,fun _=>rfl⟩
variable (hO:E7 w B hb b M S ten nx) (hA:AI M nx old R k) (hE:G4 E w) (ht:0≤ten∧ten≤15) (hB:GB B) (hH:Holds I M) (hl:I.V.length≤1000000000)
include hO hA hE ht hB hH hl
theorem C7c (x:E4) (hx:F0 x.a):Calls Zn 15 #[.pointer (some ⟨hb,0,none⟩),.int .i64 x.a,.int .i64 x.n] w (U0 w B hb b S E ten old R k I nx M .int x V1):=by
 have hrb:=hH.rootB x.a
 cases hR:rootB M x.a with
 | false=>exact (E3v w hO hA.inv hE x.a hx x.n hR).mono fun e w' h=>A4p (c:=5) (V:=V1) h hH hA (by decide) (by decide) (by rw[C0b,←hrb,hR];rfl)
 | true =>
  have he:I5 I .int x=0:=by rw[C0b,←hrb,hR];rfl
  have hi:=C7d (ten:=ten) ht hA.inv x.n x.a.toNat
  have hwk:J2 M (P5 (U7 M ten x.n) (Y9 M ten x.n) x.a.toNat (A0g M ten x.n)):=by
   have h1:J2 M (U7 M ten x.n):=by
    unfold U7
    split
    ·exact J2.refl M
    ·split
     ·exact (J2.obj ht hA.inv 1 1).trans (J2.of_eq rfl)
     ·exact J2.obj ht hA.inv 1 1
   refine h1.trans (J2.of_eq ?_);unfold P5 Z1;split<;>rfl
  refine (C7e w hO hA.inv hE ht hB x.a hx hR x.n).mono fun e w' h=>?_
  by_cases hc:Y9 M ten x.n=0
  ·exact A5h (V:=V1) (n:=0) h hc (hH.int ht hA.inv x.n x.a.toNat hl hc) (hA.same hi.1 hi.2) hwk he rfl rfl (by simp)
  ·obtain⟨h1,h2,h3⟩:=hH.int_no ht hA.inv x.n x.a.toNat hc;have h6:Y9 M ten x.n=6:=by
    unfold Y9 at hc ⊢;rw[h2] at hc ⊢;rcases C1y M ten 1 with q|q
    ·exact absurd q h3
    ·exact q
   refine B3f (V:=V1) h h6 h1 (hA.same hi.1 hi.2) hwk he ?_;have:=C1z ht hA.inv h3;rw[hA.old,hH.live hA.inv] at this;rw[C0h,h2];simp only[Bool.false_eq_true,if_false];omega
theorem C4q (x:E4) (hx:F0 x.a):Calls Zn 22 #[.pointer (some ⟨hb,0,none⟩),.int .i64 x.a,.int .i64 x.b] w (U0 w B hb b S E ten old R k I nx M .const x V1):=by
 have hrb:=hH.rootB x.a
 cases hR:rootB M x.a with
 | false=>exact (D8f w hO hA.inv hE x.a hx x.b hR).mono fun e w' h=>A4p (c:=5) (V:=V1) h hH hA (by decide) (by decide) (by rw[A9a,←hrb,hR];rfl)
 | true =>
  have hi:=D8e (M:=M) hA.inv x.b x.a.toNat
  refine (D8g w hO hA.inv hE x.a hx hR x.b).mono fun e w' h=>?_
  by_cases hv:0≤x.b∧x.b≤2
  ·have he:I5 I .const x=0:=by rw[A9a,←hrb,hR,if_pos hv];rfl
   have e1:A5y x.b=0:=if_pos hv;have e2:A7w x.b=P3 x.b:=if_pos hv;rw[e1,e2] at h hi;exact A5h (V:=V1) (n:=0) h rfl (hH.plain x.a.toNat D0n) (hA.same hi.1 hi.2) (J2.of_eq rfl) he rfl rfl (by simp)
  ·have he:I5 I .const x=2:=by rw[A9a,←hrb,hR,if_neg hv];rfl
   have e1:A5y x.b=2:=if_neg hv;have e2:P5 M (A5y x.b) x.a.toNat (A7w x.b)=M:=by unfold P5;rw[e1,if_neg (by decide)]
   rw[e2,e1] at h;exact A4p (c:=2) (V:=V1) h hH hA (by decide) (by decide) he
theorem F7e (x:E4) (hx:F0 x.a):Calls Zn 68 #[.pointer (some ⟨hb,0,none⟩),.int .i64 x.a,.string x.s] w (U0 w B hb b S E ten old R k I nx M .text x V1):=by
 have hrb:=hH.rootB x.a
 cases hR:rootB M x.a with
 | false=>exact (F7h w hO hA.inv hE x.a hx x.s hR).mono fun e w' h=>A4p (c:=5) (V:=V1) h hH hA (by decide) (by decide) (by rw[A7y,←hrb,hR];rfl)
 | true =>
  by_cases hs:x.s.size≤2000
  ·have he:I5 I .text x=0:=by rw[A7y,←hrb,hR,if_pos hs];rfl
   have hi:=F7g (ten:=ten) ht hA.inv x.s hs x.a.toNat
   have hwk:J2 M (P5 (Z6 M ten x.s) (J0 M ten (K1 x.s)) x.a.toNat (A1n M ten x.s)):=by
    have h1:J2 M (Z6 M ten x.s):=by
     unfold Z6
     split
     ·exact (J2.obj ht hA.inv 2 (K1 x.s)).trans (J2.of_eq rfl)
     ·exact J2.obj ht hA.inv 2 (K1 x.s)
    refine h1.trans (J2.of_eq ?_);unfold P5 Z1;split<;>rfl
   refine (F7i w hO hA.inv hE ht hB x.a hx x.s hR hs).mono fun e w' h=>?_
   by_cases hc:J0 M ten (K1 x.s)=0
   ·exact A5h (V:=V1) (n:=0) h hc (hH.text ht hA.inv x.s hs x.a.toNat hl hc) (hA.same hi.1 hi.2) hwk he rfl rfl (by simp)
   ·have h6:J0 M ten (K1 x.s)=6:=by
     rcases C1y M ten (K1 x.s) with q|q
     ·exact absurd q hc
     ·exact q
    refine B3f (V:=V1) h h6 (hH.text_no ht hA.inv x.s x.a.toNat hc) (hA.same hi.1 hi.2) hwk he ?_;have:=C1z ht hA.inv hc;rw[hA.old,hH.live hA.inv] at this;have hn:K1 x.s=1+(x.s.size+7)/8:=rfl;rw[C0i];omega
  ·exact (F7f w hO hA.inv hE x.a hx x.s hR hs).mono fun e w' h=>A4p (c:=2) (V:=V1) h hH hA (by decide) (by decide) (by rw[A7y,←hrb,hR,if_neg hs];rfl)
theorem C8h (x:E4) (hx:F0 x.a):Calls Zn 11 #[.pointer (some ⟨hb,0,none⟩),.int .i64 x.a,.int .i64 x.b,.int .i64 x.c] w (U0 w B hb b S E ten old R k I nx M .make x V1):=by
 have hrb:=hH.rootB x.a
 cases hR:rootB M x.a with
 | false=>exact (E5u w hO hA.inv hE x.a hx x.b x.c hR).mono fun e w' h=>A4p (c:=5) (V:=V1) h hH hA (by decide) (by decide) (by rw[A7x,←hrb,hR];rfl)
 | true =>
  by_cases hb1:x.b<8∨255<x.b∨x.c<0∨4096<x.c
  ·exact (E5s w hO hA.inv hE x.a hx hR x.b x.c hb1).mono fun e w' h=>A4p (c:=2) (V:=V1) h hH hA (by decide) (by decide) (by rw[A7x,←hrb,hR,if_pos hb1];rfl)
  ·have he:I5 I .make x=0:=by rw[A7x,←hrb,hR,if_neg hb1];rfl
   obtain⟨n,hn⟩:∃ n:Nat,x.c=(n:Int):=⟨x.c.toNat,by omega⟩;have hn2:x.c.toNat=n:=by omega
   have hi:=E5r (ten:=ten) ht hA.inv x.b n (by omega) (by omega) x.a.toNat
   have hwk:J2 M (P5 (J1 M ten x.b n) (J0 M ten n) x.a.toNat (D3 (U1 M ten n))):=by
    refine (J2.obj ht hA.inv x.b n).trans (J2.of_eq ?_);unfold P5 Z1;split<;>rfl
   rw[hn];refine (C8i w hO hA.inv hE ht hB x.a hx hR x.b n (by omega) (by omega)).mono fun e w' h=>?_
   by_cases hc:J0 M ten n=0
   ·have hf:L0 x.b=2:=by unfold L0 D2;rw[if_neg (by simp;omega)]
    have hm:=hH.make ht hA.inv x.b n (by omega) (by omega) hc x.a.toNat hl;rw[hf] at hm;have e1:P5 (J1 M ten x.b n) (J0 M ten n) x.a.toNat (D3 (U1 M ten n))=Z1 (J1 M ten x.b n) x.a.toNat (D3 (U1 M ten n)):=by unfold P5;rw[if_pos hc]
    rw[←e1] at hm;exact A5h (V:=V1) (n:=0) h hc hm (hA.same hi.1 hi.2) hwk he rfl (by show _=(Z8 I .make x false,nx);rw[C4u,hn2]) (by simp)
   ·have h6:J0 M ten n=6:=by
     rcases C1y M ten n with q|q
     ·exact absurd q hc
     ·exact q
    have h1:Holds I (P5 (J1 M ten x.b n) (J0 M ten n) x.a.toNat (D3 (U1 M ten n))):=by
     unfold P5;rw[if_neg hc];exact hH.obj_no ht hA.inv x.b n hc
    refine B3f (V:=V1) h h6 h1 (hA.same hi.1 hi.2) hwk he ?_;have:=C1z ht hA.inv hc;rw[hA.old,hH.live hA.inv] at this;rw[C5x];omega
theorem C4r (x:E4) (hx:F0 x.a) (hy:F0 x.b):Calls Zn 21 #[.pointer (some ⟨hb,0,none⟩),.int .i64 x.a,.int .i64 x.b] w (U0 w B hb b S E ten old R k I nx M .copy x V1):=by
 have hrb:=hH.rootB x.a;have hrb2:=hH.rootB x.b
 cases hR:rootB M x.a&&rootB M x.b with
 | false=>exact (E1x w hO hA.inv hE x.a hx x.b hy hR).mono fun e w' h=>A4p (c:=5) (V:=V1) h hH hA (by decide) (by decide) (by rw[B3p,←hrb,←hrb2,hR];rfl)
 | true =>
  have he:I5 I .copy x=0:=by rw[B3p,←hrb,←hrb2,hR];rfl
  have h2:=Y2.1 (Zb.1 hR).2;have hsl:x.b.toNat<M.roots.length:=by omega
  have hi:=D8j hA.inv x.a.toNat x.b.toNat hsl;have hsI:x.b.toNat<I.roots.length:=by
   obtain⟨D,f,hh⟩:=hH;rw[hh.lenR];exact hsl
  exact (E1y w hO hA.inv hE x.a hx x.b hy hR).mono fun e w' h=>A5h (c:=0) (V:=V1) (n:=0) h rfl (hH.copy x.a.toNat hsI) (hA.same hi.1 hi.2) (J2.of_eq rfl) he rfl rfl (by simp)
theorem E1h (x:E4) (hx:F0 x.a) (hy:F0 x.c):Calls Zn 69 #[.pointer (some ⟨hb,0,none⟩),.int .i64 x.a,.int .i64 x.b,.int .i64 x.c] w (U0 w B hb b S E ten old R k I nx M .get x V1):=by
 have hf:=hH.fieldC hA.inv x.a x.b x.c;by_cases hc:fieldC M x.a x.b x.c=0
 ·have he:I5 I .get x=0:=by rw[B3q,←hf];exact hc
  have hi:=E1j hA.inv hc x.c.toNat
  rw[hf] at hc
  cases hr:E5 I x.a&&E5 I x.c with
  | false=>rw[hr] at hc;cases hc
  | true =>
   rw[hr,if_pos rfl] at hc;obtain⟨hr1,hr2⟩:=Zb.1 hr;obtain⟨a,j,rn,ea,eb,hat,epl⟩:=B1s hr1 hc;obtain⟨sn,es,hs⟩:=A0i hr2;obtain⟨g1,g2⟩:=hH.get hat hs;rw[←ea,←eb] at g2;have es2:x.c.toNat=sn:=by omega
   have hd:Z8 I .get x false=I.setR sn (A6 I.V (a+1+j)):=by rw[C4t,es2,epl]
   rw[es2] at hi;refine (E1k w hO hA.inv hE x.a x.b x.c hx hy (by rw[hf,hr,if_pos rfl];exact hc)).mono fun e w' h=>?_
   rw[es2] at h;exact A5h (c:=0) (V:=V1) (n:=0) h rfl g2 (hA.same hi.1 hi.2) (J2.of_eq rfl) he rfl (by show _=(Z8 I .get x false,nx);rw[hd]) (by simp)
 ·have hc5:fieldC M x.a x.b x.c≠6:=by
   unfold fieldC;split
   ·split
    ·split<;>decide
    ·decide
   ·decide
  exact (E1i w hO hA.inv hE x.a x.b x.c hx hy hc).mono fun e w' h=>A4p (V:=V1) h hH hA hc hc5 (by rw[B3q];exact hf.symm)
theorem D0p (x:E4) (hx:F0 x.a) (hy:F0 x.c):Calls Zn 16 #[.pointer (some ⟨hb,0,none⟩),.int .i64 x.a,.int .i64 x.b,.int .i64 x.c] w (U0 w B hb b S E ten old R k I nx M .put x V1):=by
 have hf:=hH.fieldC hA.inv x.a x.b x.c;by_cases hc:fieldC M x.a x.b x.c=0
 ·have he:I5 I .put x=0:=by rw[B3r,←hf];exact hc
  have hi:=E9y hA.inv hc;rw[hf] at hc
  cases hr:E5 I x.a&&E5 I x.c with
  | false=>rw[hr] at hc;cases hc
  | true =>
   rw[hr,if_pos rfl] at hc;obtain⟨hr1,hr2⟩:=Zb.1 hr;obtain⟨a,j,rn,ea,eb,hat,epl⟩:=B1s hr1 hc;obtain⟨sn,es,hs⟩:=A0i hr2;obtain⟨g1,g2⟩:=hH.put hA.inv hat hs;rw[←ea,←eb] at g2;have es2:x.c.toNat=sn:=by omega
   have hd:Z8 I .put x false=I.put (a+1+j) (I.roots.getD sn 0):=by rw[C4v,es2,epl]
   rw[es2] at hi;have hwk:J2 M (J3 M (A2e M x.a x.b) (M.roots.getD sn 0)):=J2.of_eq (B0y M _ _).2.2.2.2.2.2.2.1;refine (E9z w hO hA.inv hE x.a x.b x.c hx hy (by rw[hf,hr,if_pos rfl];exact hc)).mono fun e w' h=>?_
   rw[es2] at h;exact A5h (c:=0) (V:=V1) (n:=0) h rfl g2 (hA.same hi.1 hi.2) hwk he rfl (by show _=(Z8 I .put x false,nx);rw[hd]) (by simp)
 ·have hc5:fieldC M x.a x.b x.c≠6:=by
   unfold fieldC;split
   ·split
    ·split<;>decide
    ·decide
   ·decide
  exact (E9w w hO hA.inv hE x.a x.b x.c hx hy hc).mono fun e w' h=>A4p (V:=V1) h hH hA hc hc5 (by rw[B3r];exact hf.symm)
theorem E6e (x:E4):Calls Zn 12 #[.pointer (some ⟨hb,0,none⟩)] w (U0 w B hb b S E ten old R k I nx M .minor x V1):=by
 have hi:=C8o (ten:=ten) ht hA.inv;refine (C0o w hO hA.inv.ok hE hA.inv.chk ht ⟨hB.bound,hB.shape,hB.full⟩).mono fun e w' h=>?_
 by_cases hc:A4f M=0
 ·exact A5h (V:=V1) (n:=0) h hc (hH.minor ht hA.inv) (hA.same hi.1 hi.2) (J2.minor ht hA.inv) rfl rfl rfl (by simp)
 ·have h6:A4f M=6:=by
   rcases C8m M with q|q
   ·exact absurd q hc
   ·exact q
  refine B3f (V:=V1) h h6 (hH.minor ht hA.inv) (hA.same hi.1 hi.2) (J2.minor ht hA.inv) rfl ?_;have:=C8n hc;rw[hA.old,hH.live hA.inv] at this;show old<(A1w I:Int)+0;omega
theorem C8g (x:E4):Calls Zn 13 #[.pointer (some ⟨hb,0,none⟩)] w (U0 w B hb b S E ten old R k I nx M .major x V1):=by
 have hi:=C1n hA.inv;refine (C0n w hO hA.inv.ok hE hA.inv.chk).mono fun e w' h=>?_
 by_cases hc:A1x M=0
 ·exact A5h (V:=V1) (n:=0) h hc (hH.major hA.inv) (hA.same hi.1 hi.2) (J2.major hA.inv) rfl rfl rfl (by simp)
 ·have h6:A1x M=6:=by
   rcases C1l M with q|q
   ·exact absurd q hc
   ·exact q
  refine B3f (V:=V1) h h6 (hH.major hA.inv) (hA.same hi.1 hi.2) (J2.major hA.inv) rfl ?_;have:=C1m hc;rw[hA.old,hH.live hA.inv] at this;show old<(A1w I:Int)+0;omega
theorem B6s {v:Value} {e:Ending} {w':World} (he:e=.returned v) (hx:A0 w w'):R8 w B hb b S ten M nx v e w':=⟨he,S,hO.ext hx,D7.of_ext hx⟩
theorem F1e (x:E4) (hx:F0 x.a) (hk:k≤1000):Calls Zn 14 #[.pointer (some ⟨hb,0,none⟩),.int .i64 x.a] w (U0 w B hb b S E ten old R k I nx M .serial x V2):=by
 have hf:=hH.headC hA.inv x.a;by_cases hc:headC M x.a=0
 ·have he:I5 I .serial x=0:=by rw[B3s,←hf];exact hc
  have hg:=(L8 hA.inv.chk).1;obtain⟨D,f,hR⟩:=id hH;obtain⟨rn,y,hrn,hrl,hpt,hkk,hz,hxm,hpl⟩:=B6q hg hc;have hrI:rn<I.roots.length:=by rw[hR.lenR];exact hrl
  have hrt:x.a.toNat=rn:=by omega
  obtain⟨a,ha⟩:∃ a:Nat,B6 (I.roots.getD rn 0)=(a:Int):=by
   rw[hf] at hc
   split at hc
   ·unfold A3b at hc;rw[hrt] at hc
    split at hc
    ·exact⟨(B6 (I.roots.getD rn 0)).toNat,by omega⟩
    ·cases hc
   ·cases hc
  refine (F1g w hO hA.inv hE (by have:=hA.nx;omega) (by have:=hA.ids;omega) x.a hx hc).mono fun e w' h=>?_
  rw[hrt] at h;rcases h with⟨i,h1,h2,rfl,hq⟩|⟨h1,S',rfl,h3,h4⟩
  ·have hs:=hR.serI_old hg hrI ha h1 h2;refine A5h (c:=0) (V:=V2) (n:=(M.ids.getD i (0,0)).2) (B6s hO hA hE ht hB hH hl rfl hq) rfl hH hA.self (J2.refl M) he ?_ ?_ (by simp)
   ·rw[B7l,hrt,ha,hs];rfl
   ·rw[D1k I x false nx (s:=(M.ids.getD i (0,0)).2) (by rw[hrt,ha,hs])]
  ·have hs:=hR.serI_new hrI ha h1;obtain⟨lN,lO,hgd⟩:=A4r hA.inv.chk;have hI:=E2w hA.inv hgd (M.roots.getD rn 0) (B8a hA.inv hrl) hkk hz (Y1 hgd.roots hrl) (by have:=hA.ids;omega) (by have:=hA.nx;omega) h1;have hA2:AI {M with ids:=M.ids++[(M.roots.getD rn 0,nx)]} (nx+1) old R (k+1):=⟨hI,hA.old,hA.roots,by have:=hA.weak;show M.weak.length≤k+1;omega,by show (M.ids++[_]).length≤k+1;rw[List.length_append];have:=hA.ids;simp;omega,by have:=hA.nx;omega⟩;refine A5h (c:=0) (V:=V2) (n:=nx) ⟨rfl,S',h3,h4⟩ rfl ⟨D,f,(hR.ser_new hrI ha h1 nx).2⟩ hA2 (J2.of_eq rfl) he ?_ ?_ (by simp)
   ·rw[B7l,hrt,ha,hs];rfl
   ·rw[D1j I x false nx (by rw[hrt,ha,hs]),hrt]
 ·have hc6:headC M x.a≠6:=by
   unfold headC;split
   ·split<;>decide
   ·decide
  exact (F1f w hO hA.inv hE x.a hx hc).mono fun e w' ⟨he,hq⟩=>A4p (V:=V2) (B6s hO hA hE ht hB hH hl he hq) hH hA hc hc6 (by rw[B3s];exact hf.symm)
theorem F8o (x:E4) (hx:F0 x.a) (hk:k≤1000):Calls Zn 70 #[.pointer (some ⟨hb,0,none⟩),.int .i64 x.a] w (U0 w B hb b S E ten old R k I nx M .weak x V2):=by
 have hf:=hH.headC hA.inv x.a;by_cases hc:headC M x.a=0
 ·have he:I5 I .weak x=0:=by rw[B3t,←hf];exact hc
  have hg:=(L8 hA.inv.chk).1;obtain⟨D,f,hR⟩:=id hH;obtain⟨rn,y,hrn,hrl,hpt,hkk,hz,hxm,hpl⟩:=B6q hg hc;have hrI:rn<I.roots.length:=by rw[hR.lenR];exact hrl
  have hrt:x.a.toNat=rn:=by omega
  obtain⟨a,ha⟩:∃ a:Nat,B6 (I.roots.getD rn 0)=(a:Int):=by
   rw[hf] at hc
   split at hc
   ·unfold A3b at hc;rw[hrt] at hc
    split at hc
    ·exact⟨(B6 (I.roots.getD rn 0)).toNat,by omega⟩
    ·cases hc
   ·cases hc
  have hwl:M.weak.length<5000:=by have:=hA.weak;omega
  refine (F8r w hO hA.inv hE x.a hx hc hwl).mono fun e w' h=>?_
  rw[hrt] at h;have hI:=F8q hA.inv hrl (by omega);have hA2:AI {M with weak:=M.weak++[M.roots.getD rn 0]} nx old R (k+1):=⟨hI,hA.old,hA.roots,by show (M.weak++[_]).length≤k+1;rw[List.length_append];have:=hA.weak;simp;omega,by have:=hA.ids;show M.ids.length≤k+1;omega,by have:=hA.nx;omega⟩;refine A5h (c:=0) (V:=V2) (n:=(M.weak.length:Int)) h rfl ⟨D,f,hR.addWeak hrI ha⟩ hA2 ⟨by simp,fun i hi q=>?_⟩ he ?_ ?_ (by simp)
  ·show (M.weak++[_]).getD i 0=2;rw[C0k hi];exact q
  ·rw[E7b,hR.lenK]
  ·show _=(Z8 I .weak x false,nx);rw[C4w,hrt]
 ·have hc6:headC M x.a≠6:=by
   unfold headC;split
   ·split<;>decide
   ·decide
  exact (F8p w hO hA.inv hE x.a hx hc).mono fun e w' ⟨he,hq⟩=>A4p (V:=V2) (B6s hO hA hE ht hB hH hl he hq) hH hA hc hc6 (by rw[B3t];exact hf.symm)
theorem E5f (x:E4) (hx:F0 x.b) (hwp:∀ i,i<I.weak.length→∃ a:Nat,B6 (I.weak.getD i 0)=(a:Int)):Calls Zn 71 #[.pointer (some ⟨hb,0,none⟩),.int .i64 x.a,.int .i64 x.b] w (U0 w B hb b S E ten old R k I nx M .look x V3):=by
 have hf:A6v M x.a x.b=I5 I .look x:=by
  rw[B6d];unfold A6v;rw[hH.rootB];obtain⟨D,f,hR⟩:=hH;rw[hR.lenK]
 by_cases hc:A6v M x.a x.b=0
 ·have he:I5 I .look x=0:=by rw[←hf];exact hc
  have hg:=(L8 hA.inv.chk).1;obtain⟨D,f,hR⟩:=id hH;have hc2:=hc;unfold A6v at hc2
  split at hc2
  ·rename_i hcond;simp only[Za,decide_eq_true_eq] at hcond;obtain⟨⟨q0,q1⟩,q2⟩:=hcond;have hkl:x.a.toNat<M.weak.length:=by omega
   obtain⟨a,ha⟩:=hwp x.a.toNat (by rw[hR.lenK];exact hkl);obtain⟨lN,lO,hgd⟩:=A4r hA.inv.chk;obtain⟨i1,i2⟩:=A7e hA.inv hgd x.b.toNat (M.weak.getD x.a.toNat 0) (Y1 (P:=fun x=>0≤x∧x≤18446744073709551615) hA.inv.ok.weak hkl) (Y1 hgd.weak hkl);refine (E5i w hO hA.inv hE x.a x.b hx hc).mono fun e w' h=>?_
   obtain⟨rfl,S',h3,h4⟩:=h;rcases hR.look (by rw[hR.lenK];exact hkl) ha x.b.toNat with⟨l1,l2,l3⟩|⟨l1,l2,l3⟩
   ·have hk0:(C7 (M.weak.getD x.a.toNat 0)==0)=true:=by rw[l1];rfl
    exact⟨0,0,true,_,S',_,nx,by rw[hk0];rfl,h3,h4,hA.same i1 i2,⟨D,f,l2⟩,J2.of_eq rfl,Or.inl ⟨rfl,he,rfl,by show _=(Z8 I .look x true,nx);rfl⟩,fun _ _ _=>l1,fun _ _ q=>(by cases q),fun q=>absurd rfl q⟩
   ·have hk0:(C7 (M.weak.getD x.a.toNat 0)==0)=false:=by rw[l1];rfl
    refine⟨0,0,false,_,S',_,nx,by rw[hk0];rfl,h3,h4,hA.same i1 i2,⟨D,f,l2⟩,J2.of_eq rfl,Or.inl ⟨rfl,he,rfl,by show _=(Z8 I .look x false,nx);rfl⟩,fun _ _ q=>(by cases q),fun _ _ _=>⟨l1,fun a2 ha2=>?_⟩,fun q=>absurd rfl q⟩;obtain rfl:a2=a:=by omega
    exact hR.gone hg l3
  ·cases hc2
 ·have hc5:A6v M x.a x.b=5:=by
   unfold A6v at hc ⊢
   split at hc
   ·exact absurd rfl hc
   ·rename_i q;rw[if_neg q]
  exact (E5g w hO hA.inv hE x.a x.b hx hc).mono fun e w' ⟨he,hq⟩=>A4p (c:=5) (V:=V3) (B6s hO hA hE ht hB hH hl he hq) hH hA (by decide) (by decide) (by rw[←hf];exact hc5)
end
def B5c (s:ByteArray) (n:Nat):ByteArray:=strOfNums (A0j (A5i (A0z s)) n n)
theorem F6z (s:ByteArray) (n:Nat):(B5c s n).size=n:=by
 unfold B5c;rw[strOfNums_size];simp[A0j]
theorem D6d (s:List Int) (i:Nat) (h:i<(s.length+7)/8):(A5i s).getD i 0=A8w s i:=by
 simp[A5i,Zd,h]
theorem F6x (s:List Int) (h:∀ b∈s,0≤b∧b≤255) (k:Nat) (hk:k<8*((s.length+7)/8)):B2o (A5i s) k=s.getD k 0:=by
 unfold B2o;rw[D6d _ _ (by omega)];exact D5y s h k
theorem F6y (s:ByteArray) (n j:Nat) (hj:j≤n) (hs:j≤s.size) (hn:n≤8*((s.size+7)/8)):(B5c s n).extract 0 j=s.extract 0 j:=by
 apply ByteArray.ext;apply Array.toList_inj.1;rw[Lib.extract_data,Lib.extract_data];simp only[List.drop_zero,Nat.sub_zero];apply List.ext_getElem?;intro i;rw[List.getElem?_take,List.getElem?_take];by_cases hi:i<j
 ·rw[if_pos hi,if_pos hi];unfold B5c;rw[strOfNums_data];have hi':i<s.data.toList.length:=Nat.lt_of_lt_of_le hi hs;have h1:=F6x (A0z s) (B3j s) i (by rw[B1l];omega);rw[B9s s i (by omega)] at h1;rw[Zf,A0j,Zf,List.getElem?_range (by omega)];rw[Ze hi'];simp only[Option.map_some,show i<n from by omega,if_true,h1];congr 1;rw[Zc];exact UInt8.ofNat_toNat
 ·rw[if_neg hi,if_neg hi]
def A2q (I:B4):ByteArray:=V6 I.V (K4 I) 0 (K4 I) (A1l (K4 I) I.roots ⟨#[]⟩)
section
variable {V W:List Int} {Dom:Nat→Prop} {f:Nat→Nat}
theorem C9s (hm:A0m V W Dom f) {l:List Ob} (h:InD V Dom l):∀ (r:List Ob) (i:Nat) (out:ByteArray),InD V Dom r→(∀ o∈r,A2s V o)→V6 W (l.map fun o=>D4 W (f o.a)) i (r.map fun o=>D4 W (f o.a)) out=V6 V l i r out
 | [],i,out,_,_=>rfl
 | o::r,i,out,hr,hro=>by
  obtain⟨hd,e⟩:=hr o (by simp);have hok:=hro o (by simp);have ew:o.w=A6 V o.a:=by rw[e];rfl
  rw[List.map_cons,V6,V6];have hk:B3 (D4 W (f o.a)).w=B3 o.w:=by rw[ew];exact hm.kind _ hd
  have hn:(D4 W (f o.a)).n=o.n:=by unfold Ob.n;rw[ew];show (B5 (A6 W (f o.a))).toNat=_;rw[hm.size _ hd]
  have hsz:A9 V o.a=o.n:=by unfold A9 Ob.n;rw[ew]
  have hraw:B3 o.w<8→∀ k,k<o.n→A6 W (f o.a+1+k)=A6 V (o.a+1+k):=fun q k hk2=>hm.raw o.a hd (by rw[←ew];unfold D2;exact decide_eq_true q) k (by rw[hsz];exact hk2)
  have hb:∀ out,Q9 W (l.map fun o=>D4 W (f o.a)) (D4 W (f o.a)) out=Q9 V l o out:=fun out=>by
   unfold Q9;rw[hk];by_cases k1:B3 o.w=1
   ·rw[if_pos k1,if_pos k1];have e1:=hraw (by omega) 0 (by have:=hok.one k1;omega);have e2:Z5 W (D4 W (f o.a)).a=Z5 V o.a:=by unfold Z5;show wrap64 (A6 W (f o.a+1))=_;rw[show f o.a+1=f o.a+1+0 from rfl,e1]
    rw[e2]
   ·rw[if_neg k1,if_neg k1];by_cases k2:B3 o.w=2
    ·rw[if_pos k2,if_pos k2];obtain⟨t1,t2,t3⟩:=hok.two k2;have e1:=hraw (by omega) 0 (by omega);have e0:A6 W (f o.a+1)=A6 V (o.a+1):=e1;have e2:V0 W (D4 W (f o.a)).a=V0 V o.a:=by
      unfold V0;show strOfNums (A0j (A2c W (f o.a) (((A6 W (f o.a+1)).toNat+7)/8)) (A6 W (f o.a+1)).toNat (A6 W (f o.a+1)).toNat)=_;rw[e0];have e3:A2c W (f o.a) (((A6 V (o.a+1)).toNat+7)/8)=A2c V o.a (((A6 V (o.a+1)).toNat+7)/8):=by
       unfold A2c;refine List.map_congr_left fun j hj=>?_
       have hj2:=List.mem_range.1 hj;have:=hraw (by omega) (1+j) (by omega);rw[show f o.a+2+j=f o.a+1+(1+j) by omega,show o.a+2+j=o.a+1+(1+j) by omega];exact this
      rw[e3]
     rw[e2]
    ·rw[if_neg k2,if_neg k2];have k8:¬B3 o.w<8:=by rcases hok.kind with q|q|q<;>omega
     have hrw:D2 (B3 (A6 V o.a))=false:=by rw[←ew];unfold D2;exact decide_eq_false k8
     refine C5j hm h _ k8 _ _ _ (by simp[K8,hn]) fun i hi=>?_
     have hi':i<o.n:=by simpa [K8] using hi
     have g1:(K8 V o).getD i 0=A6 V (o.a+1+i):=by simp[K8,Zd,hi']
     have g2:(K8 W (D4 W (f o.a))).getD i 0=A6 W (f o.a+1+i):=by
      have hi2:i<(D4 W (f o.a)).n:=by rw[hn];exact hi'
      simp[K8,Zd,hi2];rfl
     rw[g1,g2];exact hm.fld o.a hd hrw i (by rw[hsz];exact hi')
  rw[hk,hb];exact C9s hm h r (i+1) _ (fun x hx=>hr x (by simp[hx])) (fun x hx=>hro x (by simp[hx]))
theorem F0g (hm:A0m V W Dom f) {o:Ob} (hd:Dom o.a) (e:o=D4 V o.a) (h:A2s V o):A2s W (D4 W (f o.a)):=by
 have ew:o.w=A6 V o.a:=by rw[e];rfl
 have hk:B3 (D4 W (f o.a)).w=B3 o.w:=by rw[ew];exact hm.kind _ hd
 have hn:(D4 W (f o.a)).n=o.n:=by unfold Ob.n;rw[ew];show (B5 (A6 W (f o.a))).toNat=_;rw[hm.size _ hd]
 have hsz:A9 V o.a=o.n:=by unfold A9 Ob.n;rw[ew]
 refine⟨by rw[hk];exact h.kind,fun q=>by rw[hn];exact h.one (hk ▸ q),fun q=>?_⟩;rw[hk] at q;obtain⟨t1,t2,t3⟩:=h.two q;have e1:A6 W (f o.a+1)=A6 V (o.a+1):=hm.raw o.a hd (by rw[←ew,q];rfl) 0 (by rw[hsz];omega);rw[hn];show 0≤A6 W (f o.a+1)∧A6 W (f o.a+1)≤2000∧o.n=1+((A6 W (f o.a+1)).toNat+7)/8;rw[e1];exact⟨t1,t2,t3⟩
end
def P2 (P:List Nat) (u:Int):Prop:=(∃ a∈P,u=D3 ((a:Nat):Int))∨(∃ n,U2 n=true∧u=P6 n)∨∃ c:Int,(0≤c∧c≤2)∧u=P3 c
structure B5p (V:List Int) (a:Nat):Prop where
 hd:∃ kind:Int,∃ n:Nat,A6 V a=J7 kind 0 0 (n:Int)∧(0≤kind∧kind≤255)∧n≤4096
 raw:A2s V (D4 V a)
structure D5 (I:B4):Prop where
 dom:∀ a∈I.P,a+1+A9 I.V a≤I.V.length
 apart:∀ a∈I.P,∀ b∈I.P,a<b→a+1+A9 I.V a≤b
 nodup:I.P.Nodup
 head:∀ a∈I.P,B5p I.V a
 fld:∀ a∈I.P,D2 (B3 (A6 I.V a))=false→∀ k,k<A9 I.V a→P2 I.P (A6 I.V (a+1+k))
 roots:∀ u∈I.roots,P2 I.P u
 weak:∀ u∈I.weak,∃ a∈I.P,u=D3 ((a:Nat):Int)
 ids:∀ x∈I.ids,∃ a∈I.P,x.1=D3 ((a:Nat):Int)
section
variable {I:B4} {M:A7} {D:Nat→Prop} {f:Nat→Nat} {nx:Int}
theorem K7.show (h:K7 I M D f) (hg:goodB M=true) (hw:D5 I):A7f M=A2q I∧∀ x∈F5 M,A2s M.W x:=by
 obtain⟨e1,e2,-,-⟩:=h.reach hg;have hro:∀ o∈K4 I,A2s I.V o:=fun o ho=>by
  obtain⟨d1,d2⟩:=e2 o ho;rw[d2];exact (hw.head o.a (h.nodes _ d1)).raw
 refine⟨?_,fun x hx=>?_⟩
 ·unfold A7f A2q;rw[e1,D1c h.morph e2 I.roots M.roots _ h.lenR h.roots,C9s h.morph e2 _ 0 _ e2 hro]
 ·rw[e1] at hx;obtain⟨o,ho,rfl⟩:=List.mem_map.1 hx;obtain⟨d1,d2⟩:=e2 o ho;exact F0g h.morph d1 d2 (hro o ho)
theorem Holds.show (h:Holds I M) (hI:D6 M nx) (hw:D5 I):A7f M=A2q I∧∀ x∈F5 M,A2s M.W x:=by
 obtain⟨D,f,h⟩:=h;exact h.show (L8 hI.chk).1 hw
theorem P2.mono {P Q:List Nat} {u:Int} (h:P2 P u) (hs:∀ a∈P,a∈Q):P2 Q u:=by
 rcases h with⟨a,ha,e⟩|h
 ·exact Or.inl ⟨a,hs a ha,e⟩
 ·exact Or.inr h
theorem F8x (P:List Nat) {c:Int} (h:0≤c∧c≤2):P2 P (P3 c):=Or.inr (Or.inr ⟨c,h,rfl⟩)
theorem B8w (P:List Nat):P2 P 2:=Or.inr (Or.inr ⟨0,by omega,by decide⟩)
theorem D5.root (h:D5 I) {r:Nat} (hr:r<I.roots.length):P2 I.P (I.roots.getD r 0):=by
 refine h.roots _ ?_;rw[Zd,Ze hr];exact Zg hr
theorem P2.pts (h:D5 I) (hl:I.V.length≤1000000000) {u:Int} (hu:P2 I.P u) {a:Nat} (hp:B6 u=(a:Int)):a∈I.P∧u=D3 (a:Int):=by
 rcases hu with⟨b,hb,rfl⟩|⟨n,-,rfl⟩|⟨c,-,rfl⟩
 ·have hd:=h.dom b hb;have h1:=(A5a (n:=b) (by omega)).1;obtain rfl:b=a:=by omega
  exact⟨hb,rfl⟩
 ·have:=D0o n;omega
 ·have:=D0n (v:=c);omega
theorem D5.setR (h:D5 I) (r:Nat) {u:Int} (hu:P2 I.P u):D5 (I.setR r u) :=
 ⟨h.dom,h.apart,h.nodup,h.head,h.fld,fun v hv=>by
  rcases List.mem_or_eq_of_mem_set (show v∈I.roots.set r u from hv) with q|q
  ·exact h.roots v q
  ·rw[q];exact hu,h.weak,h.ids⟩
theorem D5.addId (h:D5 I) {a:Nat} (ha:a∈I.P) (s:Int):D5 (I.addId (D3 (a:Int)) s) :=
 ⟨h.dom,h.apart,h.nodup,h.head,h.fld,h.roots,h.weak,fun x hx=>by
  rcases Zi.1 (show x∈I.ids++[_] from hx) with q|q
  ·exact h.ids x q
  ·rw[Zj.1 q];exact⟨a,ha,rfl⟩⟩
theorem D5.addWeak (h:D5 I) {a:Nat} (ha:a∈I.P):D5 (I.addWeak (D3 (a:Int))) :=
 ⟨h.dom,h.apart,h.nodup,h.head,h.fld,h.roots,fun x hx=>by
  rcases Zi.1 (show x∈I.weak++[_] from hx) with q|q
  ·exact h.weak x q
  ·rw[Zj.1 q];exact⟨a,ha,rfl⟩,h.ids⟩
theorem B5p.same {V W:List Int} {a:Nat} (h:B5p V a) (hs:∀ i,i<1+A9 V a→A6 W (a+i)=A6 V (a+i)):B5p W a:=by
 have e0:A6 W a=A6 V a:=hs 0 (by omega);have eo:D4 W a=D4 V a:=by unfold D4;rw[e0]
 refine⟨by rw[e0];exact h.hd,?_⟩;rw[eo];have hn:(D4 V a).n=A9 V a:=rfl;refine⟨h.raw.kind,h.raw.one,fun q=>?_⟩;obtain⟨t1,t2,t3⟩:=h.raw.two q;have e1:A6 W ((D4 V a).a+1)=A6 V ((D4 V a).a+1):=hs 1 (by rw[←hn];omega);rw[e1];exact⟨t1,t2,t3⟩
theorem D5.new (h:D5 I) {kind:Int} {us:List Int} (hk:0≤kind∧kind≤255) (hz:us.length≤4096) (hr:A2s (I.new kind us).V (D4 (I.new kind us).V I.V.length)) (hu:D2 kind=false→∀ u∈us,P2 I.P u):D5 (I.new kind us):=by
 have hP:∀ a∈(I.new kind us).P,a∈I.P∨a=I.V.length:=fun a ha=>by
  rcases Zi.1 (show a∈I.P++[I.V.length] from ha) with q|q
  ·exact Or.inl q
  ·exact Or.inr (Zj.1 q)
 have hsub:∀ a∈I.P,a∈(I.new kind us).P:=fun a ha=>Zi.2 (Or.inl ha)
 have hlen:(I.new kind us).V.length=I.V.length+1+us.length:=by unfold B4.new;simp;omega
 obtain⟨d1,d2,d3,d4,d5⟩:=A1t kind 0 0 (us.length:Int) hk (by omega) (by omega) ⟨by omega,by omega⟩;have hw:∀ a∈I.P,∀ i,i<1+A9 I.V a→A6 (I.new kind us).V (a+i)=A6 I.V (a+i):=fun a ha i hi=>A8m I kind us (by have:=h.dom a ha;omega)
 have hw0:∀ a∈I.P,A6 (I.new kind us).V a=A6 I.V a:=fun a ha=>hw a ha 0 (by omega)
 have hs:∀ a∈I.P,A9 (I.new kind us).V a=A9 I.V a:=fun a ha=>by unfold A9;rw[hw0 a ha]
 have hsn:A9 (I.new kind us).V I.V.length=us.length:=by unfold A9;rw[A3a,d5];omega
 refine⟨fun a ha=>?_,fun a ha b hb hab=>?_,?_,fun a ha=>?_,fun a ha hq k hk2=>?_,fun u hu2=>(h.roots u hu2).mono hsub,fun u hu2=>?_,fun x hx=>?_⟩
 ·rcases hP a ha with q|rfl
  ·rw[hs a q,hlen];have:=h.dom a q;omega
  ·rw[hsn,hlen];omega
 ·rcases hP a ha with q|rfl
  ·rw[hs a q];rcases hP b hb with r|rfl
   ·exact h.apart a q b r hab
   ·exact h.dom a q
  ·rcases hP b hb with r|rfl
   ·have:=h.dom b r;omega
   ·omega
 ·show (I.P++[I.V.length]).Nodup;rw[List.nodup_append];refine⟨h.nodup,by simp,fun a ha b hb e=>?_⟩;rw[Zj.1 hb] at e;have:=h.dom a ha;omega
 ·rcases hP a ha with q|rfl
  ·exact (h.head a q).same (hw a q)
  ·exact⟨⟨kind,us.length,A3a I kind us,hk,hz⟩,hr⟩
 ·rcases hP a ha with q|rfl
  ·rw[hs a q] at hk2;rw[hw0 a q] at hq;rw[show a+1+k=a+(1+k) by omega,hw a q (1+k) (by omega),show a+(1+k)=a+1+k by omega];exact (h.fld a q hq k hk2).mono hsub
  ·rw[hsn] at hk2;rw[A3a,d2] at hq;rw[A6j];refine (hu hq _ ?_).mono hsub;rw[Zd,Ze hk2];exact Zg hk2
 ·obtain⟨a,ha,e⟩:=h.weak u hu2;exact⟨a,hsub a ha,e⟩
 ·obtain⟨a,ha,e⟩:=h.ids x hx;exact⟨a,hsub a ha,e⟩
theorem D5.put (h:D5 I) {a k:Nat} (ha:a∈I.P) (hr:D2 (B3 (A6 I.V a))=false) (hk:k<A9 I.V a) {u:Int} (hu:P2 I.P u):D5 (I.put (a+1+k) u):=by
 have hd:=h.dom a ha;have hlen:(I.put (a+1+k) u).V.length=I.V.length:=Zh;have ne:∀ i,i≠a+1+k→A6 (I.put (a+1+k) u).V i=A6 I.V i:=fun i hi=>A2r _ _ _ _ hi
 have hw0:∀ b∈I.P,A6 (I.put (a+1+k) u).V b=A6 I.V b:=fun b hb=>ne b fun e=>by
  by_cases q:b=a
  ·omega
  ·rcases Nat.lt_or_gt_of_ne q with q|q
   ·have:=h.apart b hb a ha q;omega
   ·have:=h.apart a ha b hb q;omega
 have hs:∀ b∈I.P,A9 (I.put (a+1+k) u).V b=A9 I.V b:=fun b hb=>by unfold A9;rw[hw0 b hb]
 have hw:∀ b∈I.P,b≠a→∀ i,i<1+A9 I.V b→A6 (I.put (a+1+k) u).V (b+i)=A6 I.V (b+i):=fun b hb q i hi=>ne _ fun e=>by
  rcases Nat.lt_or_gt_of_ne q with q|q
  ·have:=h.apart b hb a ha q;omega
  ·have:=h.apart a ha b hb q;omega
 refine⟨fun b hb=>by rw[hs b hb,hlen];exact h.dom b hb,fun b hb c hc hbc=>by rw[hs b hb];exact h.apart b hb c hc hbc,h.nodup,fun b hb=>?_,fun b hb hq i hi=>?_,h.roots,h.weak,h.ids⟩
 ·by_cases q:b=a
  ·subst q;have e0:=hw0 b hb;have eo:D4 (I.put (b+1+k) u).V b=D4 I.V b:=by unfold D4;rw[e0]
   have h8:8≤B3 (A6 I.V b):=by unfold D2 at hr;simpa using hr
   refine⟨by rw[e0];exact (h.head b hb).hd,?_⟩;rw[eo];have hw8:8≤B3 (D4 I.V b).w:=h8;exact⟨Or.inr (Or.inr h8),fun q=>by omega,fun q=>by omega⟩
  ·exact (h.head b hb).same (hw b hb q)
 ·rw[hs b hb] at hi;rw[hw0 b hb] at hq;by_cases q:b+1+i=a+1+k
  ·rw[q];have:A6 (I.put (a+1+k) u).V (a+1+k)=u:=A6q _ _ _ (by omega);rw[this];exact hu
  ·rw[ne _ q];exact h.fld b hb hq i hi
theorem F7a (I:B4) (s:ByteArray) (hs:s.size≤2000):V0 (I.new 2 ((s.size:Int)::T9 s)).V I.V.length=s:=by
 have hll:=A9u s;have e1:A6 (I.new 2 ((s.size:Int)::T9 s)).V (I.V.length+1)=(s.size:Int):=A6j I 2 _ 0;unfold V0;rw[e1,Zc];have e2:A2c (I.new 2 ((s.size:Int)::T9 s)).V I.V.length ((s.size+7)/8)=T9 s:=by
  refine List.ext_getElem (by simp[A2c,hll]) fun i h1 h2=>?_
  simp only[A2c,List.getElem_map,List.getElem_range];rw[show I.V.length+2+i=I.V.length+1+(1+i) by omega,A6j,show 1+i=i+1 by omega];show (T9 s).getD i 0=_;rw[Zd,Ze h2];rfl
 rw[e2];have h3:=F6y s s.size s.size (Zm _) (Zm _) (by omega);unfold B5c at h3;have h4:(strOfNums (A0j (A5i (A0z s)) s.size s.size)).size=s.size:=F6z s s.size;have e3:∀ x:ByteArray,x.extract 0 x.size=x:=fun x=>by simp
 have h5:=e3 (strOfNums (A0j (A5i (A0z s)) s.size s.size));rw[h4] at h5;show strOfNums (A0j (A5i (A0z s)) s.size s.size)=s;rw[←h5,h3,e3]
theorem F8e (v:Int) (h:-9223372036854775808≤v∧v≤9223372036854775807):wrap64 (IntKind.u64.wrap v)=v:=by
 rw[IntKind.wrap_u64];unfold wrap64;omega
theorem F0f (I:B4) (v:Int):A2s (I.new 1 [v]).V (D4 (I.new 1 [v]).V I.V.length):=by
 have hd:(D4 (I.new 1 [v]).V I.V.length).w=J7 1 0 0 1:=A3a I 1 [v];have hk:B3 (D4 (I.new 1 [v]).V I.V.length).w=1:=by rw[hd];decide
 exact⟨Or.inl hk,fun _=>by unfold Ob.n;rw[hd];decide,fun q=>by omega⟩
theorem F0h (I:B4) (s:ByteArray) (hs:s.size≤2000):A2s (I.new 2 ((s.size:Int)::T9 s)).V (D4 (I.new 2 ((s.size:Int)::T9 s)).V I.V.length):=by
 have hll:=A9u s;have hd:(D4 (I.new 2 ((s.size:Int)::T9 s)).V I.V.length).w=J7 2 0 0 (((s.size:Int)::T9 s).length:Int):=A3a I 2 _;have e1:A6 (I.new 2 ((s.size:Int)::T9 s)).V (I.V.length+1)=(s.size:Int):=A6j I 2 _ 0;obtain⟨d1,d2,d3,d4,d5⟩:=A1t 2 0 0 (((s.size:Int)::T9 s).length:Int) (by omega) (by omega) (by omega) ⟨by omega,by simp;omega⟩;have hk:B3 (D4 (I.new 2 ((s.size:Int)::T9 s)).V I.V.length).w=2:=by rw[hd,d2]
 refine⟨Or.inr (Or.inl hk),fun q=>by omega,fun _=>?_⟩;show 0≤A6 (I.new 2 ((s.size:Int)::T9 s)).V (I.V.length+1)∧A6 (I.new 2 ((s.size:Int)::T9 s)).V (I.V.length+1)≤2000∧_=1+((A6 (I.new 2 ((s.size:Int)::T9 s)).V (I.V.length+1)).toNat+7)/8;rw[e1,Zc];refine⟨by omega,by omega,?_⟩;unfold Ob.n;rw[hd,d5];simp;omega
theorem D0u (I:B4) {kind:Int} (us:List Int) (hk:8≤kind∧kind≤255) (hz:us.length≤4096):A2s (I.new kind us).V (D4 (I.new kind us).V I.V.length):=by
 have hd:(D4 (I.new kind us).V I.V.length).w=J7 kind 0 0 (us.length:Int):=A3a I kind us;obtain⟨d1,d2,d3,d4,d5⟩:=A1t kind 0 0 (us.length:Int) (by omega) (by omega) (by omega) ⟨by omega,by omega⟩;have hk2:B3 (D4 (I.new kind us).V I.V.length).w=kind:=by rw[hd,d2]
 exact⟨Or.inr (Or.inr (by omega)),fun q=>by omega,fun q=>by omega⟩
theorem D5.doN (h:D5 I) (hl:I.V.length≤900000000) (ak:AK) (x:E4) (hx:F0 x.n) (is:Bool) (he:I5 I ak x=0):D5 (doN I nx ak x is).1∧(doN I nx ak x is).1.V.length≤I.V.length+5000∧(doN I nx ak x is).1.roots.length=I.roots.length:=by
 have rt:∀ {r:Int} {c:Int},(if E5 I r then c else 5)=0→E5 I r=true:=fun {r c} q=>by
  cases hr:E5 I r with
  | true=>rfl
  | false=>rw[hr] at q;cases q
 have hset:∀ (J:B4) (r:Nat) (u:Int),(J.setR r u).roots.length=J.roots.length:=fun J r u=>by show (J.roots.set r u).length=_;rw[Zh]
 cases ak with
 | int =>
  show D5 (I.int x.a.toNat x.n)∧_∧_;change D5 (I.int x.a.toNat x.n)∧(I.int x.a.toNat x.n).V.length≤_∧(I.int x.a.toNat x.n).roots.length=_;unfold B4.int
  cases hs:U2 x.n with
  | true=>exact⟨h.setR _ (Or.inr (Or.inl ⟨x.n,hs,rfl⟩)),by show I.V.length≤_;omega,hset _ _ _⟩
  | false =>
   have h1:D5 (I.new 1 [IntKind.u64.wrap x.n]):=h.new (by omega) (by simp) (F0f I _) (fun q=>by cases q);exact⟨h1.setR _ (Or.inl ⟨I.V.length,Zi.2 (Or.inr (by simp)),rfl⟩),by show (I.V++_).length≤_;simp,hset _ _ _⟩
 | const =>
  rw[A9a] at he;have hr:=rt he;rw[hr,if_pos rfl] at he;have hc:0≤x.b∧x.b≤2:=by split at he;assumption;cases he
  exact⟨h.setR _ (F8x I.P hc),by show I.V.length≤_;omega,hset _ _ _⟩
 | text =>
  rw[A7y] at he;have hr:=rt he;rw[hr,if_pos rfl] at he;have hs:x.s.size≤2000:=by split at he;assumption;cases he
  have hll:=A9u x.s;have h1:D5 (I.new 2 ((x.s.size:Int)::T9 x.s)):=h.new (by omega) (by simp;omega) (F0h I x.s hs) (fun q=>by cases q);exact⟨h1.setR _ (Or.inl ⟨I.V.length,Zi.2 (Or.inr (by simp)),rfl⟩),by show (I.V++_).length≤_;simp;omega,hset _ _ _⟩
 | make =>
  rw[A7x] at he;have hr:=rt he;rw[hr,if_pos rfl] at he;have hb:¬(x.b<8∨255<x.b∨x.c<0∨4096<x.c):=by split at he;cases he;assumption
  have h1:D5 (I.new x.b (List.replicate x.c.toNat 2)):=h.new (by omega) (by simp;omega) (D0u I _ (by omega) (by simp;omega)) (fun _ u hu=>by rw[(List.mem_replicate.1 hu).2];exact B8w _);exact⟨h1.setR _ (Or.inl ⟨I.V.length,Zi.2 (Or.inr (by simp)),rfl⟩),by show (I.V++_).length≤_;simp;omega,hset _ _ _⟩
 | copy =>
  rw[B3p] at he;have hr:(E5 I x.a&&E5 I x.b)=true:=by split at he;assumption;cases he
  obtain⟨sn,es,hs⟩:=A0i (Zb.1 hr).2;exact⟨h.setR _ (h.root (by omega)),by show I.V.length≤_;omega,hset _ _ _⟩
 | get =>
  rw[B3q] at he;have hr:(E5 I x.a&&E5 I x.c)=true:=by split at he;assumption;cases he
  rw[hr,if_pos rfl] at he;obtain⟨a,j,rn,ea,eb,hat,epl⟩:=B1s (Zb.1 hr).1 he;have hm:=(P2.pts h (by omega) (h.root hat.lt) hat.pts).1;refine⟨h.setR _ ?_,by show I.V.length≤_;omega,hset _ _ _⟩;rw[epl];exact h.fld a hm hat.raw j hat.k
 | put =>
  rw[B3r] at he;have hr:(E5 I x.a&&E5 I x.c)=true:=by split at he;assumption;cases he
  rw[hr,if_pos rfl] at he;obtain⟨a,j,rn,ea,eb,hat,epl⟩:=B1s (Zb.1 hr).1 he;obtain⟨sn,es,hs⟩:=A0i (Zb.1 hr).2;have hm:=(P2.pts h (by omega) (h.root hat.lt) hat.pts).1;show D5 (I.put (A9b I x.a x.b) (I.roots.getD x.c.toNat 0))∧(I.put (A9b I x.a x.b) (I.roots.getD x.c.toNat 0)).V.length≤_∧_;rw[epl];exact⟨h.put hm hat.raw hat.k (h.root (by omega)),by show (I.V.set _ _).length≤_;rw[Zh];omega,rfl⟩
 | minor=>exact⟨h,by show I.V.length≤_;omega,rfl⟩
 | major=>exact⟨h,by show I.V.length≤_;omega,rfl⟩
 | other=>exact⟨h,by show I.V.length≤_;omega,rfl⟩
 | serial =>
  rw[B3s] at he;have hr:=rt he;rw[hr,if_pos rfl] at he;obtain⟨rn,er,hl2⟩:=A0i hr;have hp:0≤B6 (I.roots.getD x.a.toNat 0):=by unfold A3b at he;split at he;assumption;cases he
  obtain⟨hm,e⟩:=P2.pts h (by omega) (h.root (show x.a.toNat<I.roots.length by omega)) (a:=(B6 (I.roots.getD x.a.toNat 0)).toNat) (by omega);show D5 (A4k I nx x).1∧(A4k I nx x).1.V.length≤_∧(A4k I nx x).1.roots.length=_;unfold A4k
  split
  ·exact⟨h,by show I.V.length≤_;omega,rfl⟩
  ·refine⟨?_,by show I.V.length≤_;omega,rfl⟩;show D5 (I.addId (I.roots.getD x.a.toNat 0) nx);rw[e];exact h.addId hm nx
 | weak =>
  rw[B3t] at he;have hr:=rt he;rw[hr,if_pos rfl] at he;obtain⟨rn,er,hl2⟩:=A0i hr;have hp:0≤B6 (I.roots.getD x.a.toNat 0):=by unfold A3b at he;split at he;assumption;cases he
  obtain⟨hm,e⟩:=P2.pts h (by omega) (h.root (show x.a.toNat<I.roots.length by omega)) (a:=(B6 (I.roots.getD x.a.toNat 0)).toNat) (by omega);refine⟨?_,by show I.V.length≤_;omega,rfl⟩;show D5 (I.addWeak (I.roots.getD x.a.toNat 0));rw[e];exact h.addWeak hm
 | look =>
  rw[B6d] at he;have hc:((decide (0≤x.a)&&decide (x.a<(I.weak.length:Int)))&&E5 I x.b)=true:=by split at he;assumption;cases he
  simp only[Za,decide_eq_true_eq] at hc;refine⟨h.setR _ ?_,by show I.V.length≤_;omega,hset _ _ _⟩
  split
  ·have hi:x.a.toNat<I.weak.length:=by omega
   obtain⟨a,ha,e⟩:=h.weak (I.weak.getD x.a.toNat 0) (by rw[Zd,Ze hi];exact Zg hi);exact Or.inl ⟨a,ha,e⟩
  ·exact B8w _
theorem B7a (n:Nat):D5 (B4.fresh n):=by
 refine⟨fun a ha=>by simp[B4.fresh] at ha,fun a ha=>by simp[B4.fresh] at ha,by simp[B4.fresh],fun a ha=>by simp[B4.fresh] at ha,fun a ha=>by simp[B4.fresh] at ha,fun u hu=>?_,fun u hu=>by simp[B4.fresh] at hu,fun x hx=>by simp[B4.fresh] at hx⟩;rw[(List.mem_replicate.1 (show u∈List.replicate n 2 from hu)).2];exact B8w _
theorem D5.wk (h:D5 I) (hl:I.V.length≤1000000000):∀ i,i<I.weak.length→∃ a:Nat,B6 (I.weak.getD i 0)=(a:Int):=fun i hi=>by
 obtain⟨a,ha,e⟩:=h.weak (I.weak.getD i 0) (by rw[Zd,Ze hi];exact Zg hi);have:=h.dom a ha;exact⟨a,by rw[e];exact (A5a (by omega)).1⟩
end
end Go.Proofs.YtelhoppfidibiaaGreatDoor
