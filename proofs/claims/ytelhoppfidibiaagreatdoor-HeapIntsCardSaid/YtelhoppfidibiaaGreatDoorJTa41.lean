/- A memory among the arguments: what its reading tells of the world. -/
import Derived.Test.YtelhoppfidibiaaGreatDoorJTa07
import Derived.ProofKit
import Derived.Deep.Fields
import Derived.Deep.SlicePairs
import Derived.OpenShut
import Derived.Test.YtelhoppfidibiaaGreatDoorJTa40
import Derived.Lib.SmallJoins
import Derived.Deep.LoopGhost
import Derived.Test.YtelhoppfidibiaaGreatDoorRows
set_option linter.unusedSectionVars false
set_option linter.unusedSimpArgs false
set_option linter.unusedVariables false
set_option maxHeartbeats 8000000
set_option maxRecDepth 100000
namespace Go.Proofs.YtelhoppfidibiaaGreatDoor
open Go.ChangeShapes Go.WideShapes Go.RowKit Go.Deep
section
variable {H:Type} {enc:TypeId × Value→H} {w:World} {base:Nat} {spare:Nat→Bool} {held:Bool}
end
open Go.ChangeShapes Go.WideShapes Go.RowKit Go.Deep Go.Joins
structure ActP where
 nm:ByteArray
 a:Int
 b:Int
 c:Int
 n:Int
 s:ByteArray
instance:Inhabited ActP:=⟨⟨⟨#[]⟩,0,0,0,0,⟨#[]⟩⟩⟩
def AtAct (w:World) (g o:Nat) (x:ActP):Prop :=
 w.cell? ⟨g,o,none⟩=some (.string x.nm)∧w.cell? ⟨g,o+1,none⟩=some (.int .i64 x.a)∧w.cell? ⟨g,o+2,none⟩=some (.int .i64 x.b)∧w.cell? ⟨g,o+3,none⟩=some (.int .i64 x.c) ∧
  w.cell? ⟨g,o+4,none⟩=some (.int .i64 x.n)∧w.cell? ⟨g,o+5,none⟩=some (.string x.s)
structure RActs (w:World) (A:Option Addr) (l:List ActP):Prop where
 at_:∀ (i:Nat) (h:i<l.length),∃ g o,A=some ⟨g,o,none⟩∧AtAct w g (o+i*6) l[i]
 nums:∀ x∈l,I64 x.a∧I64 x.b∧I64 x.c∧I64 x.n
 len:l.length≤9223372036854775807
theorem RActs.ext {w w':World} {A:Option Addr} {l:List ActP} (h:RActs w A l) (hx:Ext w w'):RActs w' A l :=
 ⟨fun i hi=>by
  obtain⟨g,o,e,h0,h1,h2,h3,h4,h5⟩:=h.at_ i hi
  exact⟨g,o,e,hx.cell_ h0,hx.cell_ h1,hx.cell_ h2,hx.cell_ h3,hx.cell_ h4,hx.cell_ h5⟩,h.nums,h.len⟩
section
variable {H:Type} {enc:TypeId × Value→H} {P:Program} {w:World} {base:Nat} {spare:Nat→Bool} {held:Bool}
theorem open_six {t:TypeId} {f0 f1 f2 f3 f4 f5:Field} {fuel:Nat} {cs:List Value} {x:DataW H × List MemPlace} (ht:P.underlying t=some (.struct #[f0,f1,f2,f3,f4,f5])) (hone:oneCellFields P #[f0,f1,f2,f3,f4,f5]=true) (hC:P.cellsOf t=6)
  (h:DataW.trod enc P w base spare held fuel t cs=some x) :
  ∃ (v0 v1 v2 v3 v4 v5:Value) (y0 y1 y2 y3 y4 y5:DataW H × List MemPlace) (n:Nat),cs=[v0,v1,v2,v3,v4,v5]∧x.1=.agg [y0.1,y1.1,y2.1,y3.1,y4.1,y5.1] ∧
   DataW.trod enc P w base spare held n f0.type [v0]=some y0∧DataW.trod enc P w base spare held n f1.type [v1]=some y1∧DataW.trod enc P w base spare held n f2.type [v2]=some y2 ∧
   DataW.trod enc P w base spare held n f3.type [v3]=some y3∧DataW.trod enc P w base spare held n f4.type [v4]=some y4∧DataW.trod enc P w base spare held n f5.type [v5]=some y5:=by
 obtain⟨xs,n,_,rfl,hl,hlen,hf⟩:=DataW.trod_struct ht h
 rw[hC] at hl
 obtain⟨o0,k0⟩:=hone_of hone 0 f0 rfl
 obtain⟨o1,k1⟩:=hone_of hone 1 f1 rfl
 obtain⟨o2,k2⟩:=hone_of hone 2 f2 rfl
 obtain⟨o3,k3⟩:=hone_of hone 3 f3 rfl
 obtain⟨o4,k4⟩:=hone_of hone 4 f4 rfl
 obtain⟨o5,k5⟩:=hone_of hone 5 f5 rfl
 match xs,hlen,cs,hl with
 | [y0,y1,y2,y3,y4,y5],_,[v0,v1,v2,v3,v4,v5],_ =>
  exact⟨v0,v1,v2,v3,v4,v5,y0,y1,y2,y3,y4,y5,n,rfl,by simp,by simpa [o0,k0] using hf 0 f0 rfl,by simpa [o1,k1] using hf 1 f1 rfl,by simpa [o2,k2] using hf 2 f2 rfl,by simpa [o3,k3] using hf 3 f3 rfl,by simpa [o4,k4] using hf 4 f4 rfl,by simpa [o5,k5] using hf 5 f5 rfl⟩
theorem read_acts {fuel:Nat} {v:Value} {x:DataW H × List MemPlace} (h:DataW.trod enc Tryz.prog w base spare held fuel 58 [v]=some x) :
  ∃ (a:Option Addr) (c:Nat) (l:List ActP),v=.slice a l.length c∧RActs w a l:=by
 rcases open_slice (e:=41) (by kernel_rfl) h with⟨hcs,_⟩|⟨a,len,cap,m,n,D,Pl,hcs,_,hl,hm,hmm,hx0,hx⟩
 ·obtain rfl:=List.singleton_inj.1 hcs
  exact⟨none,0,[],rfl,⟨fun i hi=>by simp at hi,by simp,by simp⟩⟩
 ·obtain rfl:=List.singleton_inj.1 hcs
  have hle:len≤m:=by rw[hmm];split<;>omega
  have hb:∀ i,i<len→∃ q:ActP,(w.cell? (a.add (i*6))=some (.string q.nm)∧w.cell? (a.add (i*6+1))=some (.int .i64 q.a)∧w.cell? (a.add (i*6+2))=some (.int .i64 q.b) ∧
    w.cell? (a.add (i*6+3))=some (.int .i64 q.c)∧w.cell? (a.add (i*6+4))=some (.int .i64 q.n)∧w.cell? (a.add (i*6+5))=some (.string q.s))∧I64 q.a∧I64 q.b∧I64 q.c∧I64 q.n:=fun i hi=>by
   obtain⟨cs',h1,h2⟩:=hx i (by omega)
   rw[show Tryz.prog.cellsOf 41=6 by kernel_rfl] at h1
   obtain⟨_,hlen,hcell⟩:=World.cells?_some h1
   obtain⟨v0,v1,v2,v3,v4,v5,y0,y1,y2,y3,y4,y5,k,rfl,hdx,t0,t1,t2,t3,t4,t5⟩:=open_six (Tryz.underlying41) (by kernel_rfl) (by kernel_rfl) h2
   obtain⟨s0,e0,d0,_⟩:=DataW.trod_string (by kernel_rfl) t0
   obtain⟨n1,e1,_,w1⟩:=DataW.trod_int (k:=.i64) (by kernel_rfl) t1
   obtain⟨n2,e2,_,w2⟩:=DataW.trod_int (k:=.i64) (by kernel_rfl) t2
   obtain⟨n3,e3,_,w3⟩:=DataW.trod_int (k:=.i64) (by kernel_rfl) t3
   obtain⟨n4,e4,_,w4⟩:=DataW.trod_int (k:=.i64) (by kernel_rfl) t4
   obtain⟨s5,e5,d5,_⟩:=DataW.trod_string (by kernel_rfl) t5
   obtain rfl:=List.singleton_inj.1 e0
   obtain rfl:=List.singleton_inj.1 e1
   obtain rfl:=List.singleton_inj.1 e2
   obtain rfl:=List.singleton_inj.1 e3
   obtain rfl:=List.singleton_inj.1 e4
   obtain rfl:=List.singleton_inj.1 e5
   have c0:=hcell 0 (by omega)
   have c1:=hcell 1 (by omega)
   have c2:=hcell 2 (by omega)
   have c3:=hcell 3 (by omega)
   have c4:=hcell 4 (by omega)
   have c5:=hcell 5 (by omega)
   rw[add_add] at c0 c1 c2 c3 c4 c5
   exact⟨⟨s0,n1,n2,n3,n4,s5⟩,⟨by simpa using c0,by simpa using c1,by simpa using c2,by simpa using c3,by simpa using c4,by simpa using c5⟩,wf_i64 w1,wf_i64 w2,wf_i64 w3,wf_i64 w4⟩
  obtain⟨B,hB⟩:=choose_lt hb
  have hln:((List.range len).map B).length=len:=by simp
  refine⟨some a,cap,(List.range len).map B,by rw[hln],⟨fun i hi=>?_,fun z hz=>?_,by rw[hln];unfold maxLen at hm;omega⟩⟩
  ·rw[hln] at hi
   obtain⟨⟨h0,h1,h2,h3,h4,h5⟩,-⟩:=hB i hi
   obtain⟨g,o,spot⟩:=a
   have hs:spot=none:=by simpa [Addr.add] using World.cell?_spot (hB 0 (by omega)).1.1
   subst hs
   have e:((List.range len).map B)[i]'(by rw[hln];exact hi)=B i:=by simp
   rw[e]
   have h0':w.cell? ⟨g,o+i*6,none⟩=some (.string (B i).nm):=by
    by_cases e:i=0
    ·subst e;simpa [Addr.add] using h0
    ·simpa [Addr.add,show ¬i*6=0 by omega] using h0
   exact⟨g,o,rfl,h0',by simpa [Addr.add,Nat.add_assoc] using h1,by simpa [Addr.add,Nat.add_assoc] using h2,by simpa [Addr.add,Nat.add_assoc] using h3,by simpa [Addr.add,Nat.add_assoc] using h4,by simpa [Addr.add,Nat.add_assoc] using h5⟩
  ·obtain⟨i,hi,rfl⟩:=List.mem_map.1 hz
   exact (hB i (List.mem_range.1 hi)).2
end
open Go.RowKit
inductive AK where
 | int|const|text|make|copy|get|put|minor|major|serial|weak|look|other
def rootI (I:Ideal) (r:Int):Bool:=decide (0≤r)&&decide (r<(I.roots.length:Int))
def fieldI (I:Ideal) (r f:Int):Int :=
 if 0≤ptsW (I.roots.getD r.toNat 0) then (if rawB (hKind (wat I.V (ptsW (I.roots.getD r.toNat 0)).toNat)) then 3 else if 0≤f∧f<hSize (wat I.V (ptsW (I.roots.getD r.toNat 0)).toNat) then 0 else 2) else 3
def ptrI (I:Ideal) (r:Int):Int:=if 0≤ptsW (I.roots.getD r.toNat 0) then 0 else 3
def errI (I:Ideal):AK→ActP→Int
 | .int,x=>if rootI I x.a then 0 else 5
 | .const,x=>if rootI I x.a then (if 0≤x.b∧x.b≤2 then 0 else 2) else 5
 | .text,x=>if rootI I x.a then (if x.s.size≤2000 then 0 else 2) else 5
 | .make,x=>if rootI I x.a then (if x.b<8∨255<x.b∨x.c<0∨4096<x.c then 2 else 0) else 5
 | .copy,x=>if rootI I x.a&&rootI I x.b then 0 else 5
 | .get,x=>if rootI I x.a&&rootI I x.c then fieldI I x.a x.b else 5
 | .put,x=>if rootI I x.a&&rootI I x.c then fieldI I x.a x.b else 5
 | .serial,x=>if rootI I x.a then ptrI I x.a else 5
 | .weak,x=>if rootI I x.a then ptrI I x.a else 5
 | .look,x=>if (decide (0≤x.a)&&decide (x.a<(I.weak.length:Int)))&&rootI I x.b then 0 else 5
 | _,_=>0
def needI:AK→ActP→Int
 | .int,x=>if smallB x.n then 0 else 2
 | .text,x=>2+(x.s.size+7)/8
 | .make,x=>1+x.c
 | _,_=>0
def serI (I:Ideal) (p:Int):Option Int:=(I.ids.find? fun x=>ptsW x.1==p).map (·.2)
def numI (I:Ideal) (nx:Int):AK→ActP→Int
 | .serial,x=>(serI I (ptsW (I.roots.getD x.a.toNat 0))).getD nx
 | .weak,_=>(I.weak.length:Int)
 | _,_=>0
def fplI (I:Ideal) (r f:Int):Nat:=(ptsW (I.roots.getD r.toNat 0)).toNat+1+f.toNat
def doI (I:Ideal):AK→ActP→Bool→Ideal
 | .int,x,_=>I.int x.a.toNat x.n
 | .const,x,_=>I.setR x.a.toNat (constW x.b)
 | .text,x,_=>I.text x.a.toNat x.s
 | .make,x,_=>(I.new x.b (List.replicate x.c.toNat 2)).setR x.a.toNat (addrW (I.V.length:Int))
 | .copy,x,_=>I.setR x.a.toNat (I.roots.getD x.b.toNat 0)
 | .get,x,_=>I.setR x.c.toNat (wat I.V (fplI I x.a x.b))
 | .put,x,_=>I.put (fplI I x.a x.b) (I.roots.getD x.c.toNat 0)
 | .weak,x,_=>I.addWeak (I.roots.getD x.a.toNat 0)
 | .look,x,is=>I.setR x.b.toNat (if is then I.weak.getD x.a.toNat 0 else 2)
 | _,_,_=>I
def serD (I:Ideal) (nx:Int) (x:ActP):Ideal × Int:=match serI I (ptsW (I.roots.getD x.a.toNat 0)) with
 | some _=>(I,nx)
 | none=>(I.addId (I.roots.getD x.a.toNat 0) nx,nx+1)
def doN (I:Ideal) (nx:Int):AK→ActP→Bool→Ideal × Int
 | .serial,x,_=>serD I nx x
 | k,x,is=>(doI I k x is,nx)
section
variable (I:Ideal) (x:ActP) (is:Bool) (nx:Int)
theorem eI_int:errI I .int x=if rootI I x.a then 0 else 5:=rfl
theorem eI_const:errI I .const x=if rootI I x.a then (if 0≤x.b∧x.b≤2 then 0 else 2) else 5:=rfl
theorem eI_text:errI I .text x=if rootI I x.a then (if x.s.size≤2000 then 0 else 2) else 5:=rfl
theorem eI_make:errI I .make x=if rootI I x.a then (if x.b<8∨255<x.b∨x.c<0∨4096<x.c then 2 else 0) else 5:=rfl
theorem eI_copy:errI I .copy x=if rootI I x.a&&rootI I x.b then 0 else 5:=rfl
theorem eI_get:errI I .get x=if rootI I x.a&&rootI I x.c then fieldI I x.a x.b else 5:=rfl
theorem eI_put:errI I .put x=if rootI I x.a&&rootI I x.c then fieldI I x.a x.b else 5:=rfl
theorem eI_serial:errI I .serial x=if rootI I x.a then ptrI I x.a else 5:=rfl
theorem eI_weak:errI I .weak x=if rootI I x.a then ptrI I x.a else 5:=rfl
theorem eI_look:errI I .look x=if (decide (0≤x.a)&&decide (x.a<(I.weak.length:Int)))&&rootI I x.b then 0 else 5:=rfl
theorem dI_make:doI I .make x is=(I.new x.b (List.replicate x.c.toNat 2)).setR x.a.toNat (addrW (I.V.length:Int)):=rfl
theorem dI_get:doI I .get x is=I.setR x.c.toNat (wat I.V (fplI I x.a x.b)):=rfl
theorem dI_put:doI I .put x is=I.put (fplI I x.a x.b) (I.roots.getD x.c.toNat 0):=rfl
theorem dI_weak:doI I .weak x is=I.addWeak (I.roots.getD x.a.toNat 0):=rfl
theorem nI_serial:numI I nx .serial x=(serI I (ptsW (I.roots.getD x.a.toNat 0))).getD nx:=rfl
theorem nI_weak:numI I nx .weak x=(I.weak.length:Int):=rfl
theorem gI_int:needI .int x=if smallB x.n then 0 else 2:=rfl
theorem gI_text:needI .text x=2+(x.s.size+7)/8:=rfl
theorem gI_make:needI .make x=1+x.c:=rfl
theorem sD_some {s:Int} (h:serI I (ptsW (I.roots.getD x.a.toNat 0))=some s):doN I nx .serial x is=(I,nx):=by
 show serD I nx x=_
 unfold serD;rw[h]
theorem sD_none (h:serI I (ptsW (I.roots.getD x.a.toNat 0))=none):doN I nx .serial x is=(I.addId (I.roots.getD x.a.toNat 0) nx,nx+1):=by
 show serD I nx x=_
 unfold serD;rw[h]
end
def WkUp (M N:Mem):Prop:=M.weak.length≤N.weak.length∧∀ i,i<M.weak.length→M.weak.getD i 0=2→N.weak.getD i 0=2
theorem WkUp.refl (M:Mem):WkUp M M:=⟨Nat.le_refl _,fun i _ h=>h⟩
theorem WkUp.of_eq {M N:Mem} (h:N.weak=M.weak):WkUp M N:=by
 unfold WkUp;rw[h];exact⟨Nat.le_refl _,fun i _ q=>q⟩
theorem WkUp.trans {M N K:Mem} (h:WkUp M N) (k:WkUp N K):WkUp M K:=⟨Nat.le_trans h.1 k.1,fun i hi q=>k.2 i (Nat.lt_of_lt_of_le hi h.1) (h.2 i hi q)⟩
theorem WkUp.moved {M N:Mem} {go:Int→Int × Bool} {E:Nat→Prop} {g:Nat→Nat} (hm:Moved M N go E g):WkUp M N:=by
 obtain⟨all,hk⟩:=hm.kept
 refine⟨by rw[hk.weak,List.length_map];exact Nat.le_refl _,fun i hi h2=>?_⟩
 rw[hk.weak,List.getD_eq_getElem?_getD,List.getElem?_map,List.getElem?_eq_getElem hi]
 have e:M.weak[i]=2:=by rw[List.getD_eq_getElem?_getD,List.getElem?_eq_getElem hi] at h2;exact h2
 simp only[Option.map_some,Option.getD_some,e,hm.two];rfl
section
variable {I:Ideal} {M:Mem} {D:Nat→Prop} {f:Nat→Nat} {ten nx old:Int}
theorem WkUp.major (hI:HInv M nx):WkUp M (majorH M):=by
 unfold majorH
 split
 ·rename_i hl;exact WkUp.moved (major_moved (hI.full hl))
 ·exact WkUp.refl M
theorem WkUp.minor (ht:0≤ten∧ten≤15) (hI:HInv M nx):WkUp M (minorH M ten):=by
 unfold minorH
 split
 ·rename_i hl;exact WkUp.moved (minor_moved (M:=M) (ten:=ten) ⟨hI.ok,hI.chk,ht,by assumption⟩)
 ·exact WkUp.major hI
theorem WkUp.o1 (ht:0≤ten∧ten≤15) (hI:HInv M nx) (n:Int):WkUp M (o1M M ten n):=by
 unfold o1M
 split
 ·exact WkUp.minor ht hI
 ·exact WkUp.refl M
theorem WkUp.mid (ht:0≤ten∧ten≤15) (hI:HInv M nx) (sz:Nat):WkUp M (midM M ten sz):=by
 refine (WkUp.o1 ht hI (1+sz)).trans ?_
 unfold midM o2M
 split
 ·exact WkUp.major (o1_inv ht hI).1
 ·exact WkUp.refl _
theorem WkUp.obj (ht:0≤ten∧ten≤15) (hI:HInv M nx) (kind:Int) (sz:Nat):WkUp M (objM M ten kind sz):=by
 unfold objM
 split
 ·refine (WkUp.mid ht hI sz).trans (WkUp.of_eq ?_)
  unfold o3M
  split<;>rfl
 ·split
  ·exact WkUp.mid ht hI sz
  ·exact WkUp.o1 ht hI _
theorem majorC_06 (M:Mem):majorC M=0∨majorC M=6:=by unfold majorC;split<;>simp
theorem minorC_06 (M:Mem):minorC M=0∨minorC M=6:=by
 unfold minorC;split
 ·simp
 ·exact majorC_06 M
theorem objC_06 (M:Mem) (ten:Int) (sz:Nat):objC M ten sz=0∨objC M ten sz=6:=by
 unfold objC
 split
 ·split
  ·unfold o3C
   split
   ·simp
   ·split<;>simp
  ·unfold o2C
   split
   ·exact majorC_06 _
   ·simp
 ·unfold o1C
  split
  ·exact minorC_06 _
  ·simp
theorem Holds.rootB (h:Holds I M) (r:Int):rootB M r=rootI I r:=by
 obtain⟨D,f,h⟩:=h
 unfold rootI
 rw[h.lenR]
 cases hb:Go.Proofs.YtelhoppfidibiaaGreatDoor.rootB M r with
 | true =>
  obtain⟨h1,h2⟩:=rootB_true.1 hb
  rw[decide_eq_true h1,decide_eq_true h2];rfl
 | false =>
  symm
  rw[Bool.and_eq_false_iff,decide_eq_false_iff_not,decide_eq_false_iff_not]
  refine Classical.byContradiction fun q=>?_
  rw[not_or,Classical.not_not,Classical.not_not] at q
  rw[rootB_true.2 q] at hb
  cases hb
theorem Rep.ptr (h:Rep I M D f) (hg:goodB M=true) {r:Nat} (hr:r<I.roots.length):(0≤ptsW (I.roots.getD r 0)→∃ a:Nat,ptsW (I.roots.getD r 0)=(a:Int)∧D a∧placeW (M.roots.getD r 0)=(f a:Int)∧ptrB (M.roots.getD r 0)=true)∧(ptsW (I.roots.getD r 0)<0→ptrB (M.roots.getD r 0)=false):=by
 refine⟨fun q=>?_,fun q=>?_⟩
 ·obtain⟨a,ha⟩:∃ a:Nat,ptsW (I.roots.getD r 0)=(a:Int):=⟨(ptsW (I.roots.getD r 0)).toNat,by omega⟩
  obtain⟨h1,h2,h3⟩:=h.root_at hr ha
  exact⟨a,ha,h1,(pts_at h2).2.2,ptr_pts h2⟩
 ·have e:=h.root_no hr q
  rw[←e] at q
  cases hp:ptrB (M.roots.getD r 0) with
  | false=>rfl
  | true =>
   unfold ptrB at hp
   simp only[Bool.and_eq_true,beq_iff_eq,bne_iff_ne] at hp
   obtain⟨a,ha,-⟩:=fld_pts hg (fieldsB_at (good_parts hg).2.2.1 (by rw[←h.lenR];exact hr)) hp.1 hp.2
   omega
theorem Holds.headC (h:Holds I M) (hI:HInv M nx) (r:Int):headC M r=if rootI I r then ptrI I r else 5:=by
 have hb:=h.rootB r
 obtain⟨D,f,h⟩:=h
 unfold Go.Proofs.YtelhoppfidibiaaGreatDoor.headC
 rw[hb]
 cases hr:rootI I r with
 | false=>rfl
 | true =>
  have hr2:r.toNat<I.roots.length:=by
   unfold rootI at hr
   simp only[Bool.and_eq_true,decide_eq_true_eq] at hr
   omega
  obtain⟨p1,p2⟩:=h.ptr (chk_zero hI.chk).1 hr2
  unfold ptrI
  by_cases q:0≤ptsW (I.roots.getD r.toNat 0)
  ·obtain⟨a,-,-,-,e⟩:=p1 q
   rw[if_pos q,e];rfl
  ·rw[if_neg q,p2 (by omega)];rfl
theorem Holds.fieldC (h:Holds I M) (hI:HInv M nx) (r f s:Int):fieldC M r f s=if rootI I r&&rootI I s then fieldI I r f else 5:=by
 have hb:=h.rootB r
 have hb2:=h.rootB s
 obtain⟨D,g,h⟩:=h
 unfold Go.Proofs.YtelhoppfidibiaaGreatDoor.fieldC
 rw[hb,hb2]
 cases hr:(rootI I r&&rootI I s) with
 | false=>rfl
 | true =>
  have hr2:r.toNat<I.roots.length:=by
   have hr:=(Bool.and_eq_true_iff.1 hr).1
   unfold rootI at hr
   simp only[Bool.and_eq_true,decide_eq_true_eq] at hr
   omega
  obtain⟨p1,p2⟩:=h.ptr (chk_zero hI.chk).1 hr2
  unfold fieldI
  by_cases q:0≤ptsW (I.roots.getD r.toNat 0)
  ·obtain⟨a,e1,e2,e3,e4⟩:=p1 q
   simp only[if_true,if_pos q]
   rw[e3,e4,e1,Int.toNat_natCast,Int.toNat_natCast,h.morph.kind a e2,h.morph.size a e2]
   cases rawB (hKind (wat I.V a))<;>rfl
  ·rw[if_neg q,p2 (by omega)];rfl
theorem rootI_at {r:Int} (h:rootI I r=true):∃ rn:Nat,r=(rn:Int)∧rn<I.roots.length:=by
 unfold rootI at h
 simp only[Bool.and_eq_true,decide_eq_true_eq] at h
 exact⟨r.toNat,by omega,by omega⟩
theorem field_at {r f:Int} (hr:rootI I r=true) (hc:fieldI I r f=0):∃ a k rn:Nat,r=(rn:Int)∧f=(k:Int)∧RootAt I rn a k∧fplI I r f=a+1+k:=by
 obtain⟨rn,rfl,hl⟩:=rootI_at hr
 unfold fieldI at hc
 rw[Int.toNat_natCast] at hc
 split at hc
 ·rename_i q
  split at hc
  ·cases hc
  ·rename_i q2
   split at hc
   ·rename_i q3
    obtain⟨a,ha⟩:∃ a:Nat,ptsW (I.roots.getD rn 0)=(a:Int):=⟨(ptsW (I.roots.getD rn 0)).toNat,by omega⟩
    rw[ha,Int.toNat_natCast] at q2 q3
    refine⟨a,f.toNat,rn,rfl,by omega,⟨hl,ha,by simpa using q2,by unfold szW;omega⟩,?_⟩
    unfold fplI
    rw[Int.toNat_natCast,ha,Int.toNat_natCast]
   ·cases hc
 ·cases hc
theorem pw_one {v s t:Int}:∀ l:List (Int × Int),l.Pairwise idApart→(v,s)∈l→(v,t)∈l→s=t
 | [],_,h,_=>by simp at h
 | x::l,hp,h1,h2=>by
  obtain⟨p1,p2⟩:=List.pairwise_cons.1 hp
  rcases List.mem_cons.1 h1 with q1|q1<;>rcases List.mem_cons.1 h2 with q2|q2
  ·rw[←q2] at q1;exact (Prod.mk.inj q1).2
  ·have:=(p1 _ q2).1;rw[←q1] at this;exact absurd rfl this
  ·have:=(p1 _ q1).1;rw[←q2] at this;exact absurd rfl this
  ·exact pw_one l p2 q1 q2
theorem ids_one {M:Mem} (hg:goodB M=true) {v s t:Int} (h1:(v,s)∈M.ids) (h2:(v,t)∈M.ids):s=t :=
 pw_one M.ids ((idsB_iff _ _ _).1 (good_parts hg).2.2.2.2.2).2 h1 h2
theorem Rep.serI_old (h:Rep I M D f) (hg:goodB M=true) {r a i:Nat} (hr:r<I.roots.length) (hp:ptsW (I.roots.getD r 0)=(a:Int)) (hi:i<M.ids.length) (he:(M.ids.getD i (0,0)).1=M.roots.getD r 0):serI I (a:Int)=some (M.ids.getD i (0,0)).2:=by
 obtain⟨u,hu,hpu⟩:=h.ser_old hr hp hi he
 obtain⟨r1,r2,-⟩:=h.root_at hr hp
 unfold serI
 cases hf:I.ids.find? (fun x=>ptsW x.1==(a:Int)) with
 | none =>
  have:=List.find?_eq_none.1 hf _ hu
  simp[hpu] at this
 | some x =>
  obtain⟨x1,x2⟩:=x
  have hm:=List.mem_of_find?_eq_some hf
  have hx:=List.find?_some hf
  simp only[beq_iff_eq] at hx
  obtain⟨v,c,hv⟩:=h.ids1 x1 x2 hm a hx r1
  have hv2:v=M.roots.getD r 0:=by
   rcases c with⟨q,-⟩|⟨b,c1,c2,c3,-⟩
   ·omega
   ·obtain rfl:b=a:=by omega
    exact (pts_word c3).trans (pts_word r2).symm
  show some x2=_
  congr 1
  have hm2:((M.ids.getD i (0,0)).1,(M.ids.getD i (0,0)).2)∈M.ids:=by
   rw[List.getD_eq_getElem?_getD,List.getElem?_eq_getElem hi]
   exact List.getElem_mem hi
  rw[he] at hm2
  rw[hv2] at hv
  exact ids_one hg hv hm2
theorem Rep.serI_new (h:Rep I M D f) {r a:Nat} (hr:r<I.roots.length) (hp:ptsW (I.roots.getD r 0)=(a:Int)) (hn:∀ x∈M.ids,x.1≠M.roots.getD r 0):serI I (a:Int)=none:=by
 have e:I.ids.find? (fun x=>ptsW x.1==(a:Int))=none:=List.find?_eq_none.2 fun x hx=>by
  have:=(h.ser_new hr hp hn 0).1 x.1 x.2 hx
  simpa using this
 unfold serI
 rw[e];rfl
end
structure AOut (I:Ideal) (nx old:Int) (M:Mem) (ak:AK) (x:ActP) (c n:Int) (is:Bool) (I':Ideal) (nx':Int) (M':Mem):Prop where
 holds:Holds I' M'
 wk:WkUp M M'
 res:(c=0∧errI I ak x=0∧n=numI I nx ak x∧(I',nx')=doN I nx ak x is)∨(c≠0∧n=0∧is=false∧I'=I∧nx'=nx∧((c=6∧errI I ak x=0∧old<(liveI I:Int)+needI ak x)∨(c≠6∧errI I ak x=c)))
 lookT:ak=.look→c=0→is=true→kindW (M.weak.getD x.a.toNat 0)=0
 lookF:ak=.look→c=0→is=false→M.weak.getD x.a.toNat 0=2∧∀ a:Nat,ptsW (I.weak.getD x.a.toNat 0)=(a:Int)→¬a∈(reachI I).map (·.a)
 plain:ak≠.look→is=false
def IPost (w:World) (B hb b:Nat) (S:Sls) (E:Nat→Addr) (ten old:Int) (R k:Nat) (I:Ideal) (nx:Int) (M:Mem) (ak:AK) (x:ActP) (V:Int→Bool→Value→Value) (e:Ending) (w':World):Prop :=
 ∃ c n is M' S' I' nx',e=.returned (V n is (errC E c))∧OHeap w' B hb b M' S' ten nx'∧HStep hb b w S w' S'∧AI M' nx' old R (k+1)∧AOut I nx old M ak x c n is I' nx' M'
def V1 (_:Int) (_:Bool) (v:Value):Value:=v
def V2 (n:Int) (_:Bool) (v:Value):Value:=.tuple #[.int .i64 n,v]
def V3 (_:Int) (is:Bool) (v:Value):Value:=.tuple #[.bool is,v]
section
variable {B hb b:Nat} {M:Mem} {S:Sls} {E:Nat→Addr} {ten nx old c:Int} {R k:Nat} {w:World} {I:Ideal} {ak:AK} {x:ActP} {V:Int→Bool→Value→Value}
theorem ax_err {e:Ending} {w':World} (h:HPost w B hb b S ten M nx (V 0 false (errC E c)) e w') (hH:Holds I M) (hA:AI M nx old R k) (hc:c≠0) (hc6:c≠6) (he:errI I ak x=c):IPost w B hb b S E ten old R k I nx M ak x V e w':=by
 obtain⟨rfl,S',h1,h2⟩:=h
 exact⟨c,0,false,M,S',I,nx,rfl,h1,h2,hA.self,hH,WkUp.refl M,Or.inr ⟨hc,rfl,rfl,rfl,rfl,Or.inr ⟨hc6,he⟩⟩,fun _ q=>absurd q hc,fun _ q=>absurd q hc,fun _=>rfl⟩
theorem ax_full {e:Ending} {w':World} {M':Mem} (h:HPost w B hb b S ten M' nx (V 0 false (errC E c)) e w') (hc6:c=6) (hH:Holds I M') (hA:AI M' nx old R (k+1)) (hwk:WkUp M M') (he:errI I ak x=0) (hv:old<(liveI I:Int)+needI ak x):IPost w B hb b S E ten old R k I nx M ak x V e w':=by
 obtain⟨rfl,S',h1,h2⟩:=h
 subst hc6
 exact⟨6,0,false,M',S',I,nx,rfl,h1,h2,hA,hH,hwk,Or.inr ⟨by decide,rfl,rfl,rfl,rfl,Or.inl ⟨rfl,he,hv⟩⟩,fun _ q=>by omega,fun _ q=>by omega,fun _=>rfl⟩
theorem ax_ok {e:Ending} {w':World} {M':Mem} {I':Ideal} {nx' n:Int} (h:HPost w B hb b S ten M' nx' (V n false (errC E c)) e w') (hc:c=0) (hH:Holds I' M') (hA:AI M' nx' old R (k+1)) (hwk:WkUp M M') (he:errI I ak x=0) (hn:n=numI I nx ak x) (hd:(I',nx')=doN I nx ak x false) (hk:ak≠.look):IPost w B hb b S E ten old R k I nx M ak x V e w':=by
 obtain⟨rfl,S',h1,h2⟩:=h
 exact⟨c,n,false,M',S',I',nx',rfl,h1,h2,hA,hH,hwk,Or.inl ⟨hc,he,hn,hd⟩,fun q=>absurd q hk,fun q=>absurd q hk,fun _=>rfl⟩
variable (hO:OHeap w B hb b M S ten nx) (hA:AI M nx old R k) (hE:G4 E w) (ht:0≤ten∧ten≤15) (hB:GB B) (hH:Holds I M) (hl:I.V.length≤1000000000)
include hO hA hE ht hB hH hl
theorem int_ax (x:ActP) (hx:I64 x.a):Calls Tryz.prog 15 #[.pointer (some ⟨hb,0,none⟩),.int .i64 x.a,.int .i64 x.n] w (IPost w B hb b S E ten old R k I nx M .int x V1):=by
 have hrb:=hH.rootB x.a
 cases hR:rootB M x.a with
 | false=>exact (int_place w hO hA.inv hE x.a hx x.n hR).mono fun e w' h=>ax_err (c:=5) (V:=V1) h hH hA (by decide) (by decide) (by rw[eI_int,←hrb,hR];rfl)
 | true =>
  have he:errI I .int x=0:=by rw[eI_int,←hrb,hR];rfl
  have hi:=int_inv (ten:=ten) ht hA.inv x.n x.a.toNat
  have hwk:WkUp M (putR (numM M ten x.n) (numC M ten x.n) x.a.toNat (numV M ten x.n)):=by
   have h1:WkUp M (numM M ten x.n):=by
    unfold numM
    split
    ·exact WkUp.refl M
    ·split
     ·exact (WkUp.obj ht hA.inv 1 1).trans (WkUp.of_eq rfl)
     ·exact WkUp.obj ht hA.inv 1 1
   refine h1.trans (WkUp.of_eq ?_)
   unfold putR rootM;split<;>rfl
  refine (int_walk w hO hA.inv hE ht hB x.a hx hR x.n).mono fun e w' h=>?_
  by_cases hc:numC M ten x.n=0
  ·exact ax_ok (V:=V1) (n:=0) h hc (hH.int ht hA.inv x.n x.a.toNat hl hc) (hA.same hi.1 hi.2) hwk he rfl rfl (by simp)
  ·obtain⟨h1,h2,h3⟩:=hH.int_no ht hA.inv x.n x.a.toNat hc
   have h6:numC M ten x.n=6:=by
    unfold numC at hc ⊢
    rw[h2] at hc ⊢
    rcases objC_06 M ten 1 with q|q
    ·exact absurd q h3
    ·exact q
   refine ax_full (V:=V1) h h6 h1 (hA.same hi.1 hi.2) hwk he ?_
   have:=obj_full ht hA.inv h3
   rw[hA.old,hH.live hA.inv] at this
   rw[gI_int,h2]
   simp only[Bool.false_eq_true,if_false]
   omega
theorem const_ax (x:ActP) (hx:I64 x.a):Calls Tryz.prog 22 #[.pointer (some ⟨hb,0,none⟩),.int .i64 x.a,.int .i64 x.b] w (IPost w B hb b S E ten old R k I nx M .const x V1):=by
 have hrb:=hH.rootB x.a
 cases hR:rootB M x.a with
 | false=>exact (const_place w hO hA.inv hE x.a hx x.b hR).mono fun e w' h=>ax_err (c:=5) (V:=V1) h hH hA (by decide) (by decide) (by rw[eI_const,←hrb,hR];rfl)
 | true =>
  have hi:=const_inv (M:=M) hA.inv x.b x.a.toNat
  refine (const_walk w hO hA.inv hE x.a hx hR x.b).mono fun e w' h=>?_
  by_cases hv:0≤x.b∧x.b≤2
  ·have he:errI I .const x=0:=by rw[eI_const,←hrb,hR,if_pos hv];rfl
   have e1:constC x.b=0:=if_pos hv
   have e2:constV x.b=constW x.b:=if_pos hv
   rw[e1,e2] at h hi
   exact ax_ok (V:=V1) (n:=0) h rfl (hH.plain x.a.toNat pts_const) (hA.same hi.1 hi.2) (WkUp.of_eq rfl) he rfl rfl (by simp)
  ·have he:errI I .const x=2:=by rw[eI_const,←hrb,hR,if_neg hv];rfl
   have e1:constC x.b=2:=if_neg hv
   have e2:putR M (constC x.b) x.a.toNat (constV x.b)=M:=by unfold putR;rw[e1,if_neg (by decide)]
   rw[e2,e1] at h
   exact ax_err (c:=2) (V:=V1) h hH hA (by decide) (by decide) he
theorem text_ax (x:ActP) (hx:I64 x.a):Calls Tryz.prog 68 #[.pointer (some ⟨hb,0,none⟩),.int .i64 x.a,.string x.s] w (IPost w B hb b S E ten old R k I nx M .text x V1):=by
 have hrb:=hH.rootB x.a
 cases hR:rootB M x.a with
 | false=>exact (text_place w hO hA.inv hE x.a hx x.s hR).mono fun e w' h=>ax_err (c:=5) (V:=V1) h hH hA (by decide) (by decide) (by rw[eI_text,←hrb,hR];rfl)
 | true =>
  by_cases hs:x.s.size≤2000
  ·have he:errI I .text x=0:=by rw[eI_text,←hrb,hR,if_pos hs];rfl
   have hi:=text_inv (ten:=ten) ht hA.inv x.s hs x.a.toNat
   have hwk:WkUp M (putR (textM M ten x.s) (objC M ten (strN x.s)) x.a.toNat (textV M ten x.s)):=by
    have h1:WkUp M (textM M ten x.s):=by
     unfold textM
     split
     ·exact (WkUp.obj ht hA.inv 2 (strN x.s)).trans (WkUp.of_eq rfl)
     ·exact WkUp.obj ht hA.inv 2 (strN x.s)
    refine h1.trans (WkUp.of_eq ?_)
    unfold putR rootM;split<;>rfl
   refine (text_walk w hO hA.inv hE ht hB x.a hx x.s hR hs).mono fun e w' h=>?_
   by_cases hc:objC M ten (strN x.s)=0
   ·exact ax_ok (V:=V1) (n:=0) h hc (hH.text ht hA.inv x.s hs x.a.toNat hl hc) (hA.same hi.1 hi.2) hwk he rfl rfl (by simp)
   ·have h6:objC M ten (strN x.s)=6:=by
     rcases objC_06 M ten (strN x.s) with q|q
     ·exact absurd q hc
     ·exact q
    refine ax_full (V:=V1) h h6 (hH.text_no ht hA.inv x.s x.a.toNat hc) (hA.same hi.1 hi.2) hwk he ?_
    have:=obj_full ht hA.inv hc
    rw[hA.old,hH.live hA.inv] at this
    have hn:strN x.s=1+(x.s.size+7)/8:=rfl
    rw[gI_text]
    omega
  ·exact (text_bound w hO hA.inv hE x.a hx x.s hR hs).mono fun e w' h=>ax_err (c:=2) (V:=V1) h hH hA (by decide) (by decide) (by rw[eI_text,←hrb,hR,if_neg hs];rfl)
theorem make_ax (x:ActP) (hx:I64 x.a):Calls Tryz.prog 11 #[.pointer (some ⟨hb,0,none⟩),.int .i64 x.a,.int .i64 x.b,.int .i64 x.c] w (IPost w B hb b S E ten old R k I nx M .make x V1):=by
 have hrb:=hH.rootB x.a
 cases hR:rootB M x.a with
 | false=>exact (make_place w hO hA.inv hE x.a hx x.b x.c hR).mono fun e w' h=>ax_err (c:=5) (V:=V1) h hH hA (by decide) (by decide) (by rw[eI_make,←hrb,hR];rfl)
 | true =>
  by_cases hb1:x.b<8∨255<x.b∨x.c<0∨4096<x.c
  ·exact (make_bound w hO hA.inv hE x.a hx hR x.b x.c hb1).mono fun e w' h=>ax_err (c:=2) (V:=V1) h hH hA (by decide) (by decide) (by rw[eI_make,←hrb,hR,if_pos hb1];rfl)
  ·have he:errI I .make x=0:=by rw[eI_make,←hrb,hR,if_neg hb1];rfl
   obtain⟨n,hn⟩:∃ n:Nat,x.c=(n:Int):=⟨x.c.toNat,by omega⟩
   have hn2:x.c.toNat=n:=by omega
   have hi:=makeP_inv (ten:=ten) ht hA.inv x.b n (by omega) (by omega) x.a.toNat
   have hwk:WkUp M (putR (objM M ten x.b n) (objC M ten n) x.a.toNat (addrW (objPl M ten n))):=by
    refine (WkUp.obj ht hA.inv x.b n).trans (WkUp.of_eq ?_)
    unfold putR rootM;split<;>rfl
   rw[hn]
   refine (make_walk w hO hA.inv hE ht hB x.a hx hR x.b n (by omega) (by omega)).mono fun e w' h=>?_
   by_cases hc:objC M ten n=0
   ·have hf:fillW x.b=2:=by unfold fillW rawB;rw[if_neg (by simp;omega)]
    have hm:=hH.make ht hA.inv x.b n (by omega) (by omega) hc x.a.toNat hl
    rw[hf] at hm
    have e1:putR (objM M ten x.b n) (objC M ten n) x.a.toNat (addrW (objPl M ten n))=rootM (objM M ten x.b n) x.a.toNat (addrW (objPl M ten n)):=by unfold putR;rw[if_pos hc]
    rw[←e1] at hm
    exact ax_ok (V:=V1) (n:=0) h hc hm (hA.same hi.1 hi.2) hwk he rfl (by show _=(doI I .make x false,nx);rw[dI_make,hn2]) (by simp)
   ·have h6:objC M ten n=6:=by
     rcases objC_06 M ten n with q|q
     ·exact absurd q hc
     ·exact q
    have h1:Holds I (putR (objM M ten x.b n) (objC M ten n) x.a.toNat (addrW (objPl M ten n))):=by
     unfold putR;rw[if_neg hc];exact hH.obj_no ht hA.inv x.b n hc
    refine ax_full (V:=V1) h h6 h1 (hA.same hi.1 hi.2) hwk he ?_
    have:=obj_full ht hA.inv hc
    rw[hA.old,hH.live hA.inv] at this
    rw[gI_make]
    omega
theorem copy_ax (x:ActP) (hx:I64 x.a) (hy:I64 x.b):Calls Tryz.prog 21 #[.pointer (some ⟨hb,0,none⟩),.int .i64 x.a,.int .i64 x.b] w (IPost w B hb b S E ten old R k I nx M .copy x V1):=by
 have hrb:=hH.rootB x.a
 have hrb2:=hH.rootB x.b
 cases hR:rootB M x.a&&rootB M x.b with
 | false=>exact (hcopy_place w hO hA.inv hE x.a hx x.b hy hR).mono fun e w' h=>ax_err (c:=5) (V:=V1) h hH hA (by decide) (by decide) (by rw[eI_copy,←hrb,←hrb2,hR];rfl)
 | true =>
  have he:errI I .copy x=0:=by rw[eI_copy,←hrb,←hrb2,hR];rfl
  have h2:=rootB_true.1 (Bool.and_eq_true_iff.1 hR).2
  have hsl:x.b.toNat<M.roots.length:=by omega
  have hi:=copyR_inv hA.inv x.a.toNat x.b.toNat hsl
  have hsI:x.b.toNat<I.roots.length:=by
   obtain⟨D,f,hh⟩:=hH
   rw[hh.lenR];exact hsl
  exact (hcopy_walk w hO hA.inv hE x.a hx x.b hy hR).mono fun e w' h=>ax_ok (c:=0) (V:=V1) (n:=0) h rfl (hH.copy x.a.toNat hsI) (hA.same hi.1 hi.2) (WkUp.of_eq rfl) he rfl rfl (by simp)
theorem get_ax (x:ActP) (hx:I64 x.a) (hy:I64 x.c):Calls Tryz.prog 69 #[.pointer (some ⟨hb,0,none⟩),.int .i64 x.a,.int .i64 x.b,.int .i64 x.c] w (IPost w B hb b S E ten old R k I nx M .get x V1):=by
 have hf:=hH.fieldC hA.inv x.a x.b x.c
 by_cases hc:fieldC M x.a x.b x.c=0
 ·have he:errI I .get x=0:=by rw[eI_get,←hf];exact hc
  have hi:=get_inv hA.inv hc x.c.toNat
  rw[hf] at hc
  cases hr:rootI I x.a&&rootI I x.c with
  | false=>rw[hr] at hc;cases hc
  | true =>
   rw[hr,if_pos rfl] at hc
   obtain⟨hr1,hr2⟩:=Bool.and_eq_true_iff.1 hr
   obtain⟨a,j,rn,ea,eb,hat,epl⟩:=field_at hr1 hc
   obtain⟨sn,es,hs⟩:=rootI_at hr2
   obtain⟨g1,g2⟩:=hH.get hat hs
   rw[←ea,←eb] at g2
   have es2:x.c.toNat=sn:=by omega
   have hd:doI I .get x false=I.setR sn (wat I.V (a+1+j)):=by rw[dI_get,es2,epl]
   rw[es2] at hi
   refine (get_walk w hO hA.inv hE x.a x.b x.c hx hy (by rw[hf,hr,if_pos rfl];exact hc)).mono fun e w' h=>?_
   rw[es2] at h
   exact ax_ok (c:=0) (V:=V1) (n:=0) h rfl g2 (hA.same hi.1 hi.2) (WkUp.of_eq rfl) he rfl (by show _=(doI I .get x false,nx);rw[hd]) (by simp)
 ·have hc5:fieldC M x.a x.b x.c≠6:=by
   unfold fieldC;split
   ·split
    ·split<;>decide
    ·decide
   ·decide
  exact (get_err w hO hA.inv hE x.a x.b x.c hx hy hc).mono fun e w' h=>ax_err (V:=V1) h hH hA hc hc5 (by rw[eI_get];exact hf.symm)
theorem put_ax (x:ActP) (hx:I64 x.a) (hy:I64 x.c):Calls Tryz.prog 16 #[.pointer (some ⟨hb,0,none⟩),.int .i64 x.a,.int .i64 x.b,.int .i64 x.c] w (IPost w B hb b S E ten old R k I nx M .put x V1):=by
 have hf:=hH.fieldC hA.inv x.a x.b x.c
 by_cases hc:fieldC M x.a x.b x.c=0
 ·have he:errI I .put x=0:=by rw[eI_put,←hf];exact hc
  have hi:=put_inv hA.inv hc
  rw[hf] at hc
  cases hr:rootI I x.a&&rootI I x.c with
  | false=>rw[hr] at hc;cases hc
  | true =>
   rw[hr,if_pos rfl] at hc
   obtain⟨hr1,hr2⟩:=Bool.and_eq_true_iff.1 hr
   obtain⟨a,j,rn,ea,eb,hat,epl⟩:=field_at hr1 hc
   obtain⟨sn,es,hs⟩:=rootI_at hr2
   obtain⟨g1,g2⟩:=hH.put hA.inv hat hs
   rw[←ea,←eb] at g2
   have es2:x.c.toNat=sn:=by omega
   have hd:doI I .put x false=I.put (a+1+j) (I.roots.getD sn 0):=by rw[dI_put,es2,epl]
   rw[es2] at hi
   have hwk:WkUp M (storeM M (fieldP M x.a x.b) (M.roots.getD sn 0)):=WkUp.of_eq (storeM_same M _ _).2.2.2.2.2.2.2.1
   refine (put_walk w hO hA.inv hE x.a x.b x.c hx hy (by rw[hf,hr,if_pos rfl];exact hc)).mono fun e w' h=>?_
   rw[es2] at h
   exact ax_ok (c:=0) (V:=V1) (n:=0) h rfl g2 (hA.same hi.1 hi.2) hwk he rfl (by show _=(doI I .put x false,nx);rw[hd]) (by simp)
 ·have hc5:fieldC M x.a x.b x.c≠6:=by
   unfold fieldC;split
   ·split
    ·split<;>decide
    ·decide
   ·decide
  exact (put_err w hO hA.inv hE x.a x.b x.c hx hy hc).mono fun e w' h=>ax_err (V:=V1) h hH hA hc hc5 (by rw[eI_put];exact hf.symm)
theorem minor_ax (x:ActP):Calls Tryz.prog 12 #[.pointer (some ⟨hb,0,none⟩)] w (IPost w B hb b S E ten old R k I nx M .minor x V1):=by
 have hi:=minorH_inv (ten:=ten) ht hA.inv
 refine (hMinor_walk w hO hA.inv.ok hE hA.inv.chk ht ⟨hB.bound,hB.shape,hB.full⟩).mono fun e w' h=>?_
 by_cases hc:minorC M=0
 ·exact ax_ok (V:=V1) (n:=0) h hc (hH.minor ht hA.inv) (hA.same hi.1 hi.2) (WkUp.minor ht hA.inv) rfl rfl rfl (by simp)
 ·have h6:minorC M=6:=by
   rcases minorC_06 M with q|q
   ·exact absurd q hc
   ·exact q
  refine ax_full (V:=V1) h h6 (hH.minor ht hA.inv) (hA.same hi.1 hi.2) (WkUp.minor ht hA.inv) rfl ?_
  have:=minorC_full hc
  rw[hA.old,hH.live hA.inv] at this
  show old<(liveI I:Int)+0;omega
theorem major_ax (x:ActP):Calls Tryz.prog 13 #[.pointer (some ⟨hb,0,none⟩)] w (IPost w B hb b S E ten old R k I nx M .major x V1):=by
 have hi:=majorH_inv hA.inv
 refine (hMajor_walk w hO hA.inv.ok hE hA.inv.chk).mono fun e w' h=>?_
 by_cases hc:majorC M=0
 ·exact ax_ok (V:=V1) (n:=0) h hc (hH.major hA.inv) (hA.same hi.1 hi.2) (WkUp.major hA.inv) rfl rfl rfl (by simp)
 ·have h6:majorC M=6:=by
   rcases majorC_06 M with q|q
   ·exact absurd q hc
   ·exact q
  refine ax_full (V:=V1) h h6 (hH.major hA.inv) (hA.same hi.1 hi.2) (WkUp.major hA.inv) rfl ?_
  have:=majorC_full hc
  rw[hA.old,hH.live hA.inv] at this
  show old<(liveI I:Int)+0;omega
theorem hpost_ext {v:Value} {e:Ending} {w':World} (he:e=.returned v) (hx:Ext w w'):HPost w B hb b S ten M nx v e w':=⟨he,S,hO.ext hx,HStep.of_ext hx⟩
theorem serial_ax (x:ActP) (hx:I64 x.a) (hk:k≤1000):Calls Tryz.prog 14 #[.pointer (some ⟨hb,0,none⟩),.int .i64 x.a] w (IPost w B hb b S E ten old R k I nx M .serial x V2):=by
 have hf:=hH.headC hA.inv x.a
 by_cases hc:headC M x.a=0
 ·have he:errI I .serial x=0:=by rw[eI_serial,←hf];exact hc
  have hg:=(chk_zero hA.inv.chk).1
  obtain⟨D,f,hR⟩:=id hH
  obtain⟨rn,y,hrn,hrl,hpt,hkk,hz,hxm,hpl⟩:=headC_ok hg hc
  have hrI:rn<I.roots.length:=by rw[hR.lenR];exact hrl
  have hrt:x.a.toNat=rn:=by omega
  obtain⟨a,ha⟩:∃ a:Nat,ptsW (I.roots.getD rn 0)=(a:Int):=by
   rw[hf] at hc
   split at hc
   ·unfold ptrI at hc
    rw[hrt] at hc
    split at hc
    ·exact⟨(ptsW (I.roots.getD rn 0)).toNat,by omega⟩
    ·cases hc
   ·cases hc
  refine (serial_walk w hO hA.inv hE (by have:=hA.nx;omega) (by have:=hA.ids;omega) x.a hx hc).mono fun e w' h=>?_
  rw[hrt] at h
  rcases h with⟨i,h1,h2,rfl,hq⟩|⟨h1,S',rfl,h3,h4⟩
  ·have hs:=hR.serI_old hg hrI ha h1 h2
   refine ax_ok (c:=0) (V:=V2) (n:=(M.ids.getD i (0,0)).2) (hpost_ext hO hA hE ht hB hH hl rfl hq) rfl hH hA.self (WkUp.refl M) he ?_ ?_ (by simp)
   ·rw[nI_serial,hrt,ha,hs];rfl
   ·rw[sD_some I x false nx (s:=(M.ids.getD i (0,0)).2) (by rw[hrt,ha,hs])]
  ·have hs:=hR.serI_new hrI ha h1
   obtain⟨lN,lO,hgd⟩:=good_of hA.inv.chk
   have hI:=idM_inv hA.inv hgd (M.roots.getD rn 0) (root_in hA.inv hrl) hkk hz (getD_in hgd.roots hrl) (by have:=hA.ids;omega) (by have:=hA.nx;omega) h1
   have hA2:AI {M with ids:=M.ids++[(M.roots.getD rn 0,nx)]} (nx+1) old R (k+1):=⟨hI,hA.old,hA.roots,by have:=hA.weak;show M.weak.length≤k+1;omega,by show (M.ids++[_]).length≤k+1;rw[List.length_append];have:=hA.ids;simp;omega,by have:=hA.nx;omega⟩
   refine ax_ok (c:=0) (V:=V2) (n:=nx) ⟨rfl,S',h3,h4⟩ rfl ⟨D,f,(hR.ser_new hrI ha h1 nx).2⟩ hA2 (WkUp.of_eq rfl) he ?_ ?_ (by simp)
   ·rw[nI_serial,hrt,ha,hs];rfl
   ·rw[sD_none I x false nx (by rw[hrt,ha,hs]),hrt]
 ·have hc6:headC M x.a≠6:=by
   unfold headC;split
   ·split<;>decide
   ·decide
  exact (serial_err w hO hA.inv hE x.a hx hc).mono fun e w' ⟨he,hq⟩=>ax_err (V:=V2) (hpost_ext hO hA hE ht hB hH hl he hq) hH hA hc hc6 (by rw[eI_serial];exact hf.symm)
theorem weak_ax (x:ActP) (hx:I64 x.a) (hk:k≤1000):Calls Tryz.prog 70 #[.pointer (some ⟨hb,0,none⟩),.int .i64 x.a] w (IPost w B hb b S E ten old R k I nx M .weak x V2):=by
 have hf:=hH.headC hA.inv x.a
 by_cases hc:headC M x.a=0
 ·have he:errI I .weak x=0:=by rw[eI_weak,←hf];exact hc
  have hg:=(chk_zero hA.inv.chk).1
  obtain⟨D,f,hR⟩:=id hH
  obtain⟨rn,y,hrn,hrl,hpt,hkk,hz,hxm,hpl⟩:=headC_ok hg hc
  have hrI:rn<I.roots.length:=by rw[hR.lenR];exact hrl
  have hrt:x.a.toNat=rn:=by omega
  obtain⟨a,ha⟩:∃ a:Nat,ptsW (I.roots.getD rn 0)=(a:Int):=by
   rw[hf] at hc
   split at hc
   ·unfold ptrI at hc
    rw[hrt] at hc
    split at hc
    ·exact⟨(ptsW (I.roots.getD rn 0)).toNat,by omega⟩
    ·cases hc
   ·cases hc
  have hwl:M.weak.length<5000:=by have:=hA.weak;omega
  refine (weak_walk w hO hA.inv hE x.a hx hc hwl).mono fun e w' h=>?_
  rw[hrt] at h
  have hI:=weak_inv hA.inv hrl (by omega)
  have hA2:AI {M with weak:=M.weak++[M.roots.getD rn 0]} nx old R (k+1):=⟨hI,hA.old,hA.roots,by show (M.weak++[_]).length≤k+1;rw[List.length_append];have:=hA.weak;simp;omega,by have:=hA.ids;show M.ids.length≤k+1;omega,by have:=hA.nx;omega⟩
  refine ax_ok (c:=0) (V:=V2) (n:=(M.weak.length:Int)) h rfl ⟨D,f,hR.addWeak hrI ha⟩ hA2 ⟨by simp,fun i hi q=>?_⟩ he ?_ ?_ (by simp)
  ·show (M.weak++[_]).getD i 0=2
   rw[getI_app hi];exact q
  ·rw[nI_weak,hR.lenK]
  ·show _=(doI I .weak x false,nx)
   rw[dI_weak,hrt]
 ·have hc6:headC M x.a≠6:=by
   unfold headC;split
   ·split<;>decide
   ·decide
  exact (weak_err w hO hA.inv hE x.a hx hc).mono fun e w' ⟨he,hq⟩=>ax_err (V:=V2) (hpost_ext hO hA hE ht hB hH hl he hq) hH hA hc hc6 (by rw[eI_weak];exact hf.symm)
theorem look_ax (x:ActP) (hx:I64 x.b) (hwp:∀ i,i<I.weak.length→∃ a:Nat,ptsW (I.weak.getD i 0)=(a:Int)):Calls Tryz.prog 71 #[.pointer (some ⟨hb,0,none⟩),.int .i64 x.a,.int .i64 x.b] w (IPost w B hb b S E ten old R k I nx M .look x V3):=by
 have hf:lookC M x.a x.b=errI I .look x:=by
  rw[eI_look]
  unfold lookC
  rw[hH.rootB]
  obtain⟨D,f,hR⟩:=hH
  rw[hR.lenK]
 by_cases hc:lookC M x.a x.b=0
 ·have he:errI I .look x=0:=by rw[←hf];exact hc
  have hg:=(chk_zero hA.inv.chk).1
  obtain⟨D,f,hR⟩:=id hH
  have hc2:=hc
  unfold lookC at hc2
  split at hc2
  ·rename_i hcond
   simp only[Bool.and_eq_true,decide_eq_true_eq] at hcond
   obtain⟨⟨q0,q1⟩,q2⟩:=hcond
   have hkl:x.a.toNat<M.weak.length:=by omega
   obtain⟨a,ha⟩:=hwp x.a.toNat (by rw[hR.lenK];exact hkl)
   obtain⟨lN,lO,hgd⟩:=good_of hA.inv.chk
   obtain⟨i1,i2⟩:=rootM_inv hA.inv hgd x.b.toNat (M.weak.getD x.a.toNat 0) (getD_in (P:=fun x=>0≤x∧x≤18446744073709551615) hA.inv.ok.weak hkl) (getD_in hgd.weak hkl)
   refine (look_walk w hO hA.inv hE x.a x.b hx hc).mono fun e w' h=>?_
   obtain⟨rfl,S',h3,h4⟩:=h
   rcases hR.look (by rw[hR.lenK];exact hkl) ha x.b.toNat with⟨l1,l2,l3⟩|⟨l1,l2,l3⟩
   ·have hk0:(kindW (M.weak.getD x.a.toNat 0)==0)=true:=by rw[l1];rfl
    exact⟨0,0,true,_,S',_,nx,by rw[hk0];rfl,h3,h4,hA.same i1 i2,⟨D,f,l2⟩,WkUp.of_eq rfl,Or.inl ⟨rfl,he,rfl,by show _=(doI I .look x true,nx);rfl⟩,fun _ _ _=>l1,fun _ _ q=>(by cases q),fun q=>absurd rfl q⟩
   ·have hk0:(kindW (M.weak.getD x.a.toNat 0)==0)=false:=by rw[l1];rfl
    refine⟨0,0,false,_,S',_,nx,by rw[hk0];rfl,h3,h4,hA.same i1 i2,⟨D,f,l2⟩,WkUp.of_eq rfl,Or.inl ⟨rfl,he,rfl,by show _=(doI I .look x false,nx);rfl⟩,fun _ _ q=>(by cases q),fun _ _ _=>⟨l1,fun a2 ha2=>?_⟩,fun q=>absurd rfl q⟩
    obtain rfl:a2=a:=by omega
    exact hR.gone hg l3
  ·cases hc2
 ·have hc5:lookC M x.a x.b=5:=by
   unfold lookC at hc ⊢
   split at hc
   ·exact absurd rfl hc
   ·rename_i q;rw[if_neg q]
  exact (look_err w hO hA.inv hE x.a x.b hx hc).mono fun e w' ⟨he,hq⟩=>ax_err (c:=5) (V:=V3) (hpost_ext hO hA hE ht hB hH hl he hq) hH hA (by decide) (by decide) (by rw[←hf];exact hc5)
end
def akOf (nm:ByteArray):AK :=
 if nm=⟨#[105,110,116]⟩ then .int else
 if nm=⟨#[99,111,110,115,116]⟩ then .const else
 if nm=⟨#[116,101,120,116]⟩ then .text else
 if nm=⟨#[109,97,107,101]⟩ then .make else
 if nm=⟨#[99,111,112,121]⟩ then .copy else
 if nm=⟨#[103,101,116]⟩ then .get else
 if nm=⟨#[112,117,116]⟩ then .put else
 if nm=⟨#[109,105,110,111,114]⟩ then .minor else
 if nm=⟨#[109,97,106,111,114]⟩ then .major else
 if nm=⟨#[115,101,114,105,97,108]⟩ then .serial else
 if nm=⟨#[119,101,97,107]⟩ then .weak else
 if nm=⟨#[108,111,111,107]⟩ then .look else
 .other
def V4 (n:Int) (is:Bool) (v:Value):Value:=.tuple #[.int .i64 n,.bool is,v]
theorem AOut.n0 {I:Ideal} {nx old:Int} {M:Mem} {ak:AK} {x:ActP} {c n:Int} {is:Bool} {I':Ideal} {nx':Int} {M':Mem} (h:AOut I nx old M ak x c n is I' nx' M') (hk:numI I nx ak x=0):n=0:=by
 rcases h.res with⟨-,-,q,-⟩|⟨-,q,-⟩
 ·rw[q,hk]
 ·exact q
section
variable {B hb mb:Nat} {M:Mem} {S:Sls} {E:Nat→Addr} {ten nx old:Int} {R k:Nat} {w:World} {I:Ideal}
variable (hO:OHeap w B hb mb M S ten nx) (hA:AI M nx old R k) (hE:G4 E w) (ht:0≤ten∧ten≤15) (hB:GB B) (hH:Holds I M) (hl:I.V.length≤1000000000) (hwp0:∀ i,i<I.weak.length→∃ a:Nat,ptsW (I.weak.getD i 0)=(a:Int))
include hO hA hE ht hB hH hl hwp0 in
theorem acti_int (x:ActP) (hab:I64 x.a∧I64 x.b∧I64 x.c) (hk:k≤1000) :
  Calls Tryz.prog 27 #[.pointer (some ⟨hb,0,none⟩),.agg #[.string ⟨#[105,110,116]⟩,.int .i64 x.a,.int .i64 x.b,.int .i64 x.c,.int .i64 x.n,.string x.s]] w (IPost w B hb mb S E ten old R k I nx M .int x V4):=by
 have HH:=Lib.hid hO
 have HA:=Lib.hid hA
 have HE:=Lib.hid hE
 have HB:=Lib.hid hB
 have HHo:=Lib.hid hH
 have hwp:=Lib.hid hwp0
 clear hO hA hE hB hH hwp0
 go_enter Tryz.func27,Tryz.ntmps27
 go_wp2_with (go_at_call 15;refine (int_ax (hO:=HH.out.ext ((Ext.refl w).alloc_ _)) (hE:=HE.out.ext ((Ext.refl w).alloc_ _)) (hB:=HB.out) (hA:=HA.out) (ht:=ht) (hH:=HHo.out) (hl:=hl) x hab.1).mono ?_;rintro e w2 ⟨c,n,is,M2,S2,I2,nx2,he,h1,h2,h3,h4⟩;change e=.returned (errC E c) at he;subst he;have H1:=Lib.hid h1;have HS:=Lib.hid ((HStep.of_ext ((Ext.refl w).alloc_ _)).trans_ h2);have H3:=Lib.hid h3;have H4:=Lib.hid h4;clear h1 h2 h3 h4)
 (try simp only[Exit.inBlock,Exit.then])
 go_ret3
 obtain rfl:n=0:=H4.out.n0 rfl
 obtain rfl:is=false:=H4.out.plain (by simp)
 exact⟨_,_,_,M2,S2,I2,nx2,rfl,H1.out,HS.out,H3.out,H4.out⟩
include hO hA hE ht hB hH hl hwp0 in
theorem acti_const (x:ActP) (hab:I64 x.a∧I64 x.b∧I64 x.c) (hk:k≤1000) :
  Calls Tryz.prog 27 #[.pointer (some ⟨hb,0,none⟩),.agg #[.string ⟨#[99,111,110,115,116]⟩,.int .i64 x.a,.int .i64 x.b,.int .i64 x.c,.int .i64 x.n,.string x.s]] w (IPost w B hb mb S E ten old R k I nx M .const x V4):=by
 have HH:=Lib.hid hO
 have HA:=Lib.hid hA
 have HE:=Lib.hid hE
 have HB:=Lib.hid hB
 have HHo:=Lib.hid hH
 have hwp:=Lib.hid hwp0
 clear hO hA hE hB hH hwp0
 go_enter Tryz.func27,Tryz.ntmps27
 go_wp2_with (go_at_call 22;refine (const_ax (hO:=HH.out.ext ((Ext.refl w).alloc_ _)) (hE:=HE.out.ext ((Ext.refl w).alloc_ _)) (hB:=HB.out) (hA:=HA.out) (ht:=ht) (hH:=HHo.out) (hl:=hl) x hab.1).mono ?_;rintro e w2 ⟨c,n,is,M2,S2,I2,nx2,he,h1,h2,h3,h4⟩;change e=.returned (errC E c) at he;subst he;have H1:=Lib.hid h1;have HS:=Lib.hid ((HStep.of_ext ((Ext.refl w).alloc_ _)).trans_ h2);have H3:=Lib.hid h3;have H4:=Lib.hid h4;clear h1 h2 h3 h4)
 (try simp only[Exit.inBlock,Exit.then])
 go_ret3
 obtain rfl:n=0:=H4.out.n0 rfl
 obtain rfl:is=false:=H4.out.plain (by simp)
 exact⟨_,_,_,M2,S2,I2,nx2,rfl,H1.out,HS.out,H3.out,H4.out⟩
include hO hA hE ht hB hH hl hwp0 in
theorem acti_text (x:ActP) (hab:I64 x.a∧I64 x.b∧I64 x.c) (hk:k≤1000) :
  Calls Tryz.prog 27 #[.pointer (some ⟨hb,0,none⟩),.agg #[.string ⟨#[116,101,120,116]⟩,.int .i64 x.a,.int .i64 x.b,.int .i64 x.c,.int .i64 x.n,.string x.s]] w (IPost w B hb mb S E ten old R k I nx M .text x V4):=by
 have HH:=Lib.hid hO
 have HA:=Lib.hid hA
 have HE:=Lib.hid hE
 have HB:=Lib.hid hB
 have HHo:=Lib.hid hH
 have hwp:=Lib.hid hwp0
 clear hO hA hE hB hH hwp0
 go_enter Tryz.func27,Tryz.ntmps27
 go_wp2_with (go_at_call 68;refine (text_ax (hO:=HH.out.ext ((Ext.refl w).alloc_ _)) (hE:=HE.out.ext ((Ext.refl w).alloc_ _)) (hB:=HB.out) (hA:=HA.out) (ht:=ht) (hH:=HHo.out) (hl:=hl) x hab.1).mono ?_;rintro e w2 ⟨c,n,is,M2,S2,I2,nx2,he,h1,h2,h3,h4⟩;change e=.returned (errC E c) at he;subst he;have H1:=Lib.hid h1;have HS:=Lib.hid ((HStep.of_ext ((Ext.refl w).alloc_ _)).trans_ h2);have H3:=Lib.hid h3;have H4:=Lib.hid h4;clear h1 h2 h3 h4)
 (try simp only[Exit.inBlock,Exit.then])
 go_ret3
 obtain rfl:n=0:=H4.out.n0 rfl
 obtain rfl:is=false:=H4.out.plain (by simp)
 exact⟨_,_,_,M2,S2,I2,nx2,rfl,H1.out,HS.out,H3.out,H4.out⟩
include hO hA hE ht hB hH hl hwp0 in
theorem acti_make (x:ActP) (hab:I64 x.a∧I64 x.b∧I64 x.c) (hk:k≤1000) :
  Calls Tryz.prog 27 #[.pointer (some ⟨hb,0,none⟩),.agg #[.string ⟨#[109,97,107,101]⟩,.int .i64 x.a,.int .i64 x.b,.int .i64 x.c,.int .i64 x.n,.string x.s]] w (IPost w B hb mb S E ten old R k I nx M .make x V4):=by
 have HH:=Lib.hid hO
 have HA:=Lib.hid hA
 have HE:=Lib.hid hE
 have HB:=Lib.hid hB
 have HHo:=Lib.hid hH
 have hwp:=Lib.hid hwp0
 clear hO hA hE hB hH hwp0
 go_enter Tryz.func27,Tryz.ntmps27
 go_wp2_with (go_at_call 11;refine (make_ax (hO:=HH.out.ext ((Ext.refl w).alloc_ _)) (hE:=HE.out.ext ((Ext.refl w).alloc_ _)) (hB:=HB.out) (hA:=HA.out) (ht:=ht) (hH:=HHo.out) (hl:=hl) x hab.1).mono ?_;rintro e w2 ⟨c,n,is,M2,S2,I2,nx2,he,h1,h2,h3,h4⟩;change e=.returned (errC E c) at he;subst he;have H1:=Lib.hid h1;have HS:=Lib.hid ((HStep.of_ext ((Ext.refl w).alloc_ _)).trans_ h2);have H3:=Lib.hid h3;have H4:=Lib.hid h4;clear h1 h2 h3 h4)
 (try simp only[Exit.inBlock,Exit.then])
 go_ret3
 obtain rfl:n=0:=H4.out.n0 rfl
 obtain rfl:is=false:=H4.out.plain (by simp)
 exact⟨_,_,_,M2,S2,I2,nx2,rfl,H1.out,HS.out,H3.out,H4.out⟩
include hO hA hE ht hB hH hl hwp0 in
theorem acti_copy (x:ActP) (hab:I64 x.a∧I64 x.b∧I64 x.c) (hk:k≤1000) :
  Calls Tryz.prog 27 #[.pointer (some ⟨hb,0,none⟩),.agg #[.string ⟨#[99,111,112,121]⟩,.int .i64 x.a,.int .i64 x.b,.int .i64 x.c,.int .i64 x.n,.string x.s]] w (IPost w B hb mb S E ten old R k I nx M .copy x V4):=by
 have HH:=Lib.hid hO
 have HA:=Lib.hid hA
 have HE:=Lib.hid hE
 have HB:=Lib.hid hB
 have HHo:=Lib.hid hH
 have hwp:=Lib.hid hwp0
 clear hO hA hE hB hH hwp0
 go_enter Tryz.func27,Tryz.ntmps27
 go_wp2_with (go_at_call 21;refine (copy_ax (hO:=HH.out.ext ((Ext.refl w).alloc_ _)) (hE:=HE.out.ext ((Ext.refl w).alloc_ _)) (hB:=HB.out) (hA:=HA.out) (ht:=ht) (hH:=HHo.out) (hl:=hl) x hab.1 hab.2.1).mono ?_;rintro e w2 ⟨c,n,is,M2,S2,I2,nx2,he,h1,h2,h3,h4⟩;change e=.returned (errC E c) at he;subst he;have H1:=Lib.hid h1;have HS:=Lib.hid ((HStep.of_ext ((Ext.refl w).alloc_ _)).trans_ h2);have H3:=Lib.hid h3;have H4:=Lib.hid h4;clear h1 h2 h3 h4)
 (try simp only[Exit.inBlock,Exit.then])
 go_ret3
 obtain rfl:n=0:=H4.out.n0 rfl
 obtain rfl:is=false:=H4.out.plain (by simp)
 exact⟨_,_,_,M2,S2,I2,nx2,rfl,H1.out,HS.out,H3.out,H4.out⟩
include hO hA hE ht hB hH hl hwp0 in
theorem acti_get (x:ActP) (hab:I64 x.a∧I64 x.b∧I64 x.c) (hk:k≤1000) :
  Calls Tryz.prog 27 #[.pointer (some ⟨hb,0,none⟩),.agg #[.string ⟨#[103,101,116]⟩,.int .i64 x.a,.int .i64 x.b,.int .i64 x.c,.int .i64 x.n,.string x.s]] w (IPost w B hb mb S E ten old R k I nx M .get x V4):=by
 have HH:=Lib.hid hO
 have HA:=Lib.hid hA
 have HE:=Lib.hid hE
 have HB:=Lib.hid hB
 have HHo:=Lib.hid hH
 have hwp:=Lib.hid hwp0
 clear hO hA hE hB hH hwp0
 go_enter Tryz.func27,Tryz.ntmps27
 go_wp2_with (go_at_call 69;refine (get_ax (hO:=HH.out.ext ((Ext.refl w).alloc_ _)) (hE:=HE.out.ext ((Ext.refl w).alloc_ _)) (hB:=HB.out) (hA:=HA.out) (ht:=ht) (hH:=HHo.out) (hl:=hl) x hab.1 hab.2.2).mono ?_;rintro e w2 ⟨c,n,is,M2,S2,I2,nx2,he,h1,h2,h3,h4⟩;change e=.returned (errC E c) at he;subst he;have H1:=Lib.hid h1;have HS:=Lib.hid ((HStep.of_ext ((Ext.refl w).alloc_ _)).trans_ h2);have H3:=Lib.hid h3;have H4:=Lib.hid h4;clear h1 h2 h3 h4)
 (try simp only[Exit.inBlock,Exit.then])
 go_ret3
 obtain rfl:n=0:=H4.out.n0 rfl
 obtain rfl:is=false:=H4.out.plain (by simp)
 exact⟨_,_,_,M2,S2,I2,nx2,rfl,H1.out,HS.out,H3.out,H4.out⟩
include hO hA hE ht hB hH hl hwp0 in
theorem acti_put (x:ActP) (hab:I64 x.a∧I64 x.b∧I64 x.c) (hk:k≤1000) :
  Calls Tryz.prog 27 #[.pointer (some ⟨hb,0,none⟩),.agg #[.string ⟨#[112,117,116]⟩,.int .i64 x.a,.int .i64 x.b,.int .i64 x.c,.int .i64 x.n,.string x.s]] w (IPost w B hb mb S E ten old R k I nx M .put x V4):=by
 have HH:=Lib.hid hO
 have HA:=Lib.hid hA
 have HE:=Lib.hid hE
 have HB:=Lib.hid hB
 have HHo:=Lib.hid hH
 have hwp:=Lib.hid hwp0
 clear hO hA hE hB hH hwp0
 go_enter Tryz.func27,Tryz.ntmps27
 go_wp2_with (go_at_call 16;refine (put_ax (hO:=HH.out.ext ((Ext.refl w).alloc_ _)) (hE:=HE.out.ext ((Ext.refl w).alloc_ _)) (hB:=HB.out) (hA:=HA.out) (ht:=ht) (hH:=HHo.out) (hl:=hl) x hab.1 hab.2.2).mono ?_;rintro e w2 ⟨c,n,is,M2,S2,I2,nx2,he,h1,h2,h3,h4⟩;change e=.returned (errC E c) at he;subst he;have H1:=Lib.hid h1;have HS:=Lib.hid ((HStep.of_ext ((Ext.refl w).alloc_ _)).trans_ h2);have H3:=Lib.hid h3;have H4:=Lib.hid h4;clear h1 h2 h3 h4)
 (try simp only[Exit.inBlock,Exit.then])
 go_ret3
 obtain rfl:n=0:=H4.out.n0 rfl
 obtain rfl:is=false:=H4.out.plain (by simp)
 exact⟨_,_,_,M2,S2,I2,nx2,rfl,H1.out,HS.out,H3.out,H4.out⟩
include hO hA hE ht hB hH hl hwp0 in
theorem acti_minor (x:ActP) (hab:I64 x.a∧I64 x.b∧I64 x.c) (hk:k≤1000) :
  Calls Tryz.prog 27 #[.pointer (some ⟨hb,0,none⟩),.agg #[.string ⟨#[109,105,110,111,114]⟩,.int .i64 x.a,.int .i64 x.b,.int .i64 x.c,.int .i64 x.n,.string x.s]] w (IPost w B hb mb S E ten old R k I nx M .minor x V4):=by
 have HH:=Lib.hid hO
 have HA:=Lib.hid hA
 have HE:=Lib.hid hE
 have HB:=Lib.hid hB
 have HHo:=Lib.hid hH
 have hwp:=Lib.hid hwp0
 clear hO hA hE hB hH hwp0
 go_enter Tryz.func27,Tryz.ntmps27
 go_wp2_with (go_at_call 12;refine (minor_ax (hO:=HH.out.ext ((Ext.refl w).alloc_ _)) (hE:=HE.out.ext ((Ext.refl w).alloc_ _)) (hB:=HB.out) (hA:=HA.out) (ht:=ht) (hH:=HHo.out) (hl:=hl) x).mono ?_;rintro e w2 ⟨c,n,is,M2,S2,I2,nx2,he,h1,h2,h3,h4⟩;change e=.returned (errC E c) at he;subst he;have H1:=Lib.hid h1;have HS:=Lib.hid ((HStep.of_ext ((Ext.refl w).alloc_ _)).trans_ h2);have H3:=Lib.hid h3;have H4:=Lib.hid h4;clear h1 h2 h3 h4)
 (try simp only[Exit.inBlock,Exit.then])
 go_ret3
 obtain rfl:n=0:=H4.out.n0 rfl
 obtain rfl:is=false:=H4.out.plain (by simp)
 exact⟨_,_,_,M2,S2,I2,nx2,rfl,H1.out,HS.out,H3.out,H4.out⟩
include hO hA hE ht hB hH hl hwp0 in
theorem acti_major (x:ActP) (hab:I64 x.a∧I64 x.b∧I64 x.c) (hk:k≤1000) :
  Calls Tryz.prog 27 #[.pointer (some ⟨hb,0,none⟩),.agg #[.string ⟨#[109,97,106,111,114]⟩,.int .i64 x.a,.int .i64 x.b,.int .i64 x.c,.int .i64 x.n,.string x.s]] w (IPost w B hb mb S E ten old R k I nx M .major x V4):=by
 have HH:=Lib.hid hO
 have HA:=Lib.hid hA
 have HE:=Lib.hid hE
 have HB:=Lib.hid hB
 have HHo:=Lib.hid hH
 have hwp:=Lib.hid hwp0
 clear hO hA hE hB hH hwp0
 go_enter Tryz.func27,Tryz.ntmps27
 go_wp2_with (go_at_call 13;refine (major_ax (hO:=HH.out.ext ((Ext.refl w).alloc_ _)) (hE:=HE.out.ext ((Ext.refl w).alloc_ _)) (hB:=HB.out) (hA:=HA.out) (ht:=ht) (hH:=HHo.out) (hl:=hl) x).mono ?_;rintro e w2 ⟨c,n,is,M2,S2,I2,nx2,he,h1,h2,h3,h4⟩;change e=.returned (errC E c) at he;subst he;have H1:=Lib.hid h1;have HS:=Lib.hid ((HStep.of_ext ((Ext.refl w).alloc_ _)).trans_ h2);have H3:=Lib.hid h3;have H4:=Lib.hid h4;clear h1 h2 h3 h4)
 (try simp only[Exit.inBlock,Exit.then])
 go_ret3
 obtain rfl:n=0:=H4.out.n0 rfl
 obtain rfl:is=false:=H4.out.plain (by simp)
 exact⟨_,_,_,M2,S2,I2,nx2,rfl,H1.out,HS.out,H3.out,H4.out⟩
include hO hA hE ht hB hH hl hwp0 in
theorem acti_serial (x:ActP) (hab:I64 x.a∧I64 x.b∧I64 x.c) (hk:k≤1000) :
  Calls Tryz.prog 27 #[.pointer (some ⟨hb,0,none⟩),.agg #[.string ⟨#[115,101,114,105,97,108]⟩,.int .i64 x.a,.int .i64 x.b,.int .i64 x.c,.int .i64 x.n,.string x.s]] w (IPost w B hb mb S E ten old R k I nx M .serial x V4):=by
 have HH:=Lib.hid hO
 have HA:=Lib.hid hA
 have HE:=Lib.hid hE
 have HB:=Lib.hid hB
 have HHo:=Lib.hid hH
 have hwp:=Lib.hid hwp0
 clear hO hA hE hB hH hwp0
 go_enter Tryz.func27,Tryz.ntmps27
 go_wp2_with (go_at_call 14;refine (serial_ax (hO:=HH.out.ext ((Ext.refl w).alloc_ _)) (hE:=HE.out.ext ((Ext.refl w).alloc_ _)) (hB:=HB.out) (hA:=HA.out) (ht:=ht) (hH:=HHo.out) (hl:=hl) x hab.1 hk).mono ?_;rintro e w2 ⟨c,n,is,M2,S2,I2,nx2,he,h1,h2,h3,h4⟩;change e=.returned (.tuple #[.int .i64 n,errC E c]) at he;subst he;have H1:=Lib.hid h1;have HS:=Lib.hid ((HStep.of_ext ((Ext.refl w).alloc_ _)).trans_ h2);have H3:=Lib.hid h3;have H4:=Lib.hid h4;clear h1 h2 h3 h4)
 (try simp only[Exit.inBlock,Exit.then])
 go_ret3
 obtain rfl:is=false:=H4.out.plain (by simp)
 exact⟨_,_,_,M2,S2,I2,nx2,rfl,H1.out,HS.out,H3.out,H4.out⟩
include hO hA hE ht hB hH hl hwp0 in
theorem acti_weak (x:ActP) (hab:I64 x.a∧I64 x.b∧I64 x.c) (hk:k≤1000) :
  Calls Tryz.prog 27 #[.pointer (some ⟨hb,0,none⟩),.agg #[.string ⟨#[119,101,97,107]⟩,.int .i64 x.a,.int .i64 x.b,.int .i64 x.c,.int .i64 x.n,.string x.s]] w (IPost w B hb mb S E ten old R k I nx M .weak x V4):=by
 have HH:=Lib.hid hO
 have HA:=Lib.hid hA
 have HE:=Lib.hid hE
 have HB:=Lib.hid hB
 have HHo:=Lib.hid hH
 have hwp:=Lib.hid hwp0
 clear hO hA hE hB hH hwp0
 go_enter Tryz.func27,Tryz.ntmps27
 go_wp2_with (go_at_call 70;refine (weak_ax (hO:=HH.out.ext ((Ext.refl w).alloc_ _)) (hE:=HE.out.ext ((Ext.refl w).alloc_ _)) (hB:=HB.out) (hA:=HA.out) (ht:=ht) (hH:=HHo.out) (hl:=hl) x hab.1 hk).mono ?_;rintro e w2 ⟨c,n,is,M2,S2,I2,nx2,he,h1,h2,h3,h4⟩;change e=.returned (.tuple #[.int .i64 n,errC E c]) at he;subst he;have H1:=Lib.hid h1;have HS:=Lib.hid ((HStep.of_ext ((Ext.refl w).alloc_ _)).trans_ h2);have H3:=Lib.hid h3;have H4:=Lib.hid h4;clear h1 h2 h3 h4)
 (try simp only[Exit.inBlock,Exit.then])
 go_ret3
 obtain rfl:is=false:=H4.out.plain (by simp)
 exact⟨_,_,_,M2,S2,I2,nx2,rfl,H1.out,HS.out,H3.out,H4.out⟩
include hO hA hE ht hB hH hl hwp0 in
theorem acti_look (x:ActP) (hab:I64 x.a∧I64 x.b∧I64 x.c) (hk:k≤1000) :
  Calls Tryz.prog 27 #[.pointer (some ⟨hb,0,none⟩),.agg #[.string ⟨#[108,111,111,107]⟩,.int .i64 x.a,.int .i64 x.b,.int .i64 x.c,.int .i64 x.n,.string x.s]] w (IPost w B hb mb S E ten old R k I nx M .look x V4):=by
 have HH:=Lib.hid hO
 have HA:=Lib.hid hA
 have HE:=Lib.hid hE
 have HB:=Lib.hid hB
 have HHo:=Lib.hid hH
 have hwp:=Lib.hid hwp0
 clear hO hA hE hB hH hwp0
 go_enter Tryz.func27,Tryz.ntmps27
 go_wp2_with (go_at_call 71;refine (look_ax (hO:=HH.out.ext ((Ext.refl w).alloc_ _)) (hE:=HE.out.ext ((Ext.refl w).alloc_ _)) (hB:=HB.out) (hA:=HA.out) (ht:=ht) (hH:=HHo.out) (hl:=hl) x hab.2.1 hwp.out).mono ?_;rintro e w2 ⟨c,n,is,M2,S2,I2,nx2,he,h1,h2,h3,h4⟩;change e=.returned (.tuple #[.bool is,errC E c]) at he;subst he;have H1:=Lib.hid h1;have HS:=Lib.hid ((HStep.of_ext ((Ext.refl w).alloc_ _)).trans_ h2);have H3:=Lib.hid h3;have H4:=Lib.hid h4;clear h1 h2 h3 h4)
 (try simp only[Exit.inBlock,Exit.then])
 go_ret3
 obtain rfl:n=0:=H4.out.n0 rfl
 exact⟨_,_,_,M2,S2,I2,nx2,rfl,H1.out,HS.out,H3.out,H4.out⟩
include hO hA hH in
theorem acti_no (x:ActP) (n0:(x.nm.toList==[105,110,116])=false) (n1:(x.nm.toList==[99,111,110,115,116])=false) (n2:(x.nm.toList==[116,101,120,116])=false) (n3:(x.nm.toList==[109,97,107,101])=false) (n4:(x.nm.toList==[99,111,112,121])=false) (n5:(x.nm.toList==[103,101,116])=false) (n6:(x.nm.toList==[112,117,116])=false) (n7:(x.nm.toList==[109,105,110,111,114])=false) (n8:(x.nm.toList==[109,97,106,111,114])=false) (n9:(x.nm.toList==[115,101,114,105,97,108])=false) (n10:(x.nm.toList==[119,101,97,107])=false) (n11:(x.nm.toList==[108,111,111,107])=false) :
  Calls Tryz.prog 27 #[.pointer (some ⟨hb,0,none⟩),.agg #[.string x.nm,.int .i64 x.a,.int .i64 x.b,.int .i64 x.c,.int .i64 x.n,.string x.s]] w (IPost w B hb mb S E ten old R k I nx M .other x V4):=by
 have HH:=Lib.hid hO
 have HA:=Lib.hid hA
 have HHo:=Lib.hid hH
 clear hO hA hH
 go_enter Tryz.func27,Tryz.ntmps27
 go_wp2
 (try simp only[Exit.inBlock,Exit.then])
 go_ret3
 exact⟨0,0,false,M,S,I,nx,rfl,HH.out.ext ((Ext.refl w).alloc_ _),HStep.of_ext ((Ext.refl w).alloc_ _),HA.out.self,HHo.out,WkUp.refl M,Or.inl ⟨rfl,rfl,rfl,rfl⟩,fun q=>(by cases q),fun q=>(by cases q),fun _=>rfl⟩
include hO hA hE ht hB hH hl hwp0 in
theorem acti_walk (x:ActP) (hab:I64 x.a∧I64 x.b∧I64 x.c) (hk:k≤1000) :
  Calls Tryz.prog 27 #[.pointer (some ⟨hb,0,none⟩),.agg #[.string x.nm,.int .i64 x.a,.int .i64 x.b,.int .i64 x.c,.int .i64 x.n,.string x.s]] w (IPost w B hb mb S E ten old R k I nx M (akOf x.nm) x V4):=by
 by_cases n0:x.nm=⟨#[105,110,116]⟩
 ·rw[n0,show akOf ⟨#[105,110,116]⟩=.int from by rfl];exact acti_int hO hA hE ht hB hH hl hwp0 x hab hk
 by_cases n1:x.nm=⟨#[99,111,110,115,116]⟩
 ·rw[n1,show akOf ⟨#[99,111,110,115,116]⟩=.const from by rfl];exact acti_const hO hA hE ht hB hH hl hwp0 x hab hk
 by_cases n2:x.nm=⟨#[116,101,120,116]⟩
 ·rw[n2,show akOf ⟨#[116,101,120,116]⟩=.text from by rfl];exact acti_text hO hA hE ht hB hH hl hwp0 x hab hk
 by_cases n3:x.nm=⟨#[109,97,107,101]⟩
 ·rw[n3,show akOf ⟨#[109,97,107,101]⟩=.make from by rfl];exact acti_make hO hA hE ht hB hH hl hwp0 x hab hk
 by_cases n4:x.nm=⟨#[99,111,112,121]⟩
 ·rw[n4,show akOf ⟨#[99,111,112,121]⟩=.copy from by rfl];exact acti_copy hO hA hE ht hB hH hl hwp0 x hab hk
 by_cases n5:x.nm=⟨#[103,101,116]⟩
 ·rw[n5,show akOf ⟨#[103,101,116]⟩=.get from by rfl];exact acti_get hO hA hE ht hB hH hl hwp0 x hab hk
 by_cases n6:x.nm=⟨#[112,117,116]⟩
 ·rw[n6,show akOf ⟨#[112,117,116]⟩=.put from by rfl];exact acti_put hO hA hE ht hB hH hl hwp0 x hab hk
 by_cases n7:x.nm=⟨#[109,105,110,111,114]⟩
 ·rw[n7,show akOf ⟨#[109,105,110,111,114]⟩=.minor from by rfl];exact acti_minor hO hA hE ht hB hH hl hwp0 x hab hk
 by_cases n8:x.nm=⟨#[109,97,106,111,114]⟩
 ·rw[n8,show akOf ⟨#[109,97,106,111,114]⟩=.major from by rfl];exact acti_major hO hA hE ht hB hH hl hwp0 x hab hk
 by_cases n9:x.nm=⟨#[115,101,114,105,97,108]⟩
 ·rw[n9,show akOf ⟨#[115,101,114,105,97,108]⟩=.serial from by rfl];exact acti_serial hO hA hE ht hB hH hl hwp0 x hab hk
 by_cases n10:x.nm=⟨#[119,101,97,107]⟩
 ·rw[n10,show akOf ⟨#[119,101,97,107]⟩=.weak from by rfl];exact acti_weak hO hA hE ht hB hH hl hwp0 x hab hk
 by_cases n11:x.nm=⟨#[108,111,111,107]⟩
 ·rw[n11,show akOf ⟨#[108,111,111,107]⟩=.look from by rfl];exact acti_look hO hA hE ht hB hH hl hwp0 x hab hk
 have e:akOf x.nm=.other:=by unfold akOf;rw[if_neg n0,if_neg n1,if_neg n2,if_neg n3,if_neg n4,if_neg n5,if_neg n6,if_neg n7,if_neg n8,if_neg n9,if_neg n10,if_neg n11]
 rw[e]
 exact acti_no hO hA hH x (not_lit n0) (not_lit n1) (not_lit n2) (not_lit n3) (not_lit n4) (not_lit n5) (not_lit n6) (not_lit n7) (not_lit n8) (not_lit n9) (not_lit n10) (not_lit n11)
end
end Go.Proofs.YtelhoppfidibiaaGreatDoor
