/- The law HeapInts: the closed facts of its row, each by itself. -/
import Derived.Test.YtelhoppfidibiaaGreatDoorJUp01
import Derived.Test.YtelhoppfidibiaaGreatDoorCards
import Derived.JoinedCond
import Derived.Lib.SmallJoins
import Derived.ProofKit
import Derived.Test.YtelhoppfidibiaaGreatDoorJTa41
import Derived.Test.YtelhoppfidibiaaGreatDoorJTa42
import Derived.Test.YtelhoppfidibiaaGreatDoorJTa04
import Derived.Test.YtelhoppfidibiaaGreatDoorJTa43
import Derived.Test.YtelhoppfidibiaaGreatDoorJTa07
import Derived.Deep.LoopGhost
import Derived.Deep.CutRange
import Derived.StillTailTactics
import Derived.LaidEqlPtr
import Derived.Test.YtelhoppfidibiaaGreatDoorJTa22
import Derived.Test.YtelhoppfidibiaaGreatDoorJTa39
set_option linter.unusedSimpArgs false
set_option linter.unusedVariables false
set_option maxHeartbeats 40000000
set_option maxRecDepth 100000
namespace Go.Proofs.YtelhoppfidibiaaGreatDoor.HeapInts
open Go.ChangeShapes Go.WideShapes Go.ChangeAt Go.RowKit
theorem closed:joinedFacts Tryz.prog 4 Tryz.f4 (OpenSpec.ofChange Rows.heapIntsSpec).bare Rows.heapIntsRow=true:=by
 unfold joinedFacts
 repeat' (with_reducible refine Bool.and_eq_true_iff.2 ⟨?_,?_⟩)
 all_goals as_aux_lemma=>kernel_rfl
end Go.Proofs.YtelhoppfidibiaaGreatDoor.HeapInts
namespace Go.Proofs.YtelhoppfidibiaaGreatDoor
open Go.RowKit
def hx1:ActP:=⟨⟨#[109,97,107,101]⟩,1,8,1,0,⟨#[]⟩⟩
def hx2 (n:Int):ActP:=⟨⟨#[105,110,116]⟩,0,0,0,n,⟨#[]⟩⟩
def hx3:ActP:=⟨⟨#[112,117,116]⟩,1,0,0,0,⟨#[]⟩⟩
def hJ0:Ideal:=Ideal.fresh 2
def hJ1:Ideal:=doI hJ0 .make hx1 false
def hJ2 (n:Int):Ideal:=doI hJ1 .int (hx2 n) false
def hJ3 (n:Int):Ideal:=doI (hJ2 n) .put hx3 false
theorem hE1:errI hJ0 .make hx1=0:=by decide
theorem hE2 (n:Int):errI hJ1 .int (hx2 n)=0:=by
 show (if rootI hJ1 0 then (0:Int) else 5)=0
 decide
theorem hJ2_eq (n:Int):hJ2 n=if smallB n then hJ1.setR 0 (intW n) else (hJ1.new 1 [IntKind.u64.wrap n]).setR 0 (addrW 2):=rfl
theorem hE3 (n:Int):errI (hJ2 n) .put hx3=0:=by
 rw[hJ2_eq]
 cases smallB n<;>rfl
theorem hS1:(hJ1.P.map fun a=>1+szW hJ1.V a).sum=2:=by decide
theorem hJ2_small {n:Int} (h:smallB n=true):hJ2 n=⟨[headW 8 0 0 1,2],[0],[intW n,addrW 0],[],[]⟩:=by rw[hJ2_eq,h];rfl
theorem hJ2_big {n:Int} (h:smallB n=false):hJ2 n=⟨[headW 8 0 0 1,2,headW 1 0 0 1,IntKind.u64.wrap n],[0,2],[addrW 2,addrW 0],[],[]⟩:=by rw[hJ2_eq,h];rfl
theorem hJ3_small {n:Int} (h:smallB n=true):hJ3 n=⟨[headW 8 0 0 1,intW n],[0],[intW n,addrW 0],[],[]⟩:=by unfold hJ3;rw[hJ2_small h];rfl
theorem hJ3_big {n:Int} (h:smallB n=false):hJ3 n=⟨[headW 8 0 0 1,addrW 2,headW 1 0 0 1,IntKind.u64.wrap n],[0,2],[addrW 2,addrW 0],[],[]⟩:=by unfold hJ3;rw[hJ2_big h];rfl
theorem szw2 (V:List Int) (a:Nat) (k:Int) (h:wat V a=headW k 0 0 1) (hk:0≤k∧k≤255):szW V a=1:=by
 unfold szW;rw[h,(headW_hd k 0 0 1 hk (by omega) (by omega) (by omega)).2.2.2.2];rfl
theorem hS2 (n:Int):((hJ2 n).P.map fun a=>1+szW (hJ2 n).V a).sum≤4:=by
 cases h:smallB n
 ·rw[hJ2_big h]
  show (1+szW _ 0)+((1+szW _ 2)+0)≤4
  rw[szw2 _ 0 8 rfl (by omega),szw2 _ 2 1 rfl (by omega)];omega
 ·rw[hJ2_small h]
  show (1+szW _ 0)+0≤4
  rw[szw2 _ 0 8 rfl (by omega)];omega
theorem hS3 (n:Int):((hJ3 n).P.map fun a=>1+szW (hJ3 n).V a).sum≤4:=by
 cases h:smallB n
 ·rw[hJ3_big h]
  show (1+szW _ 0)+((1+szW _ 2)+0)≤4
  rw[szw2 _ 0 8 rfl (by omega),szw2 _ 2 1 rfl (by omega)];omega
 ·rw[hJ3_small h]
  show (1+szW _ 0)+0≤4
  rw[szw2 _ 0 8 rfl (by omega)];omega
theorem i64_0:I64 0:=by unfold I64;omega
theorem hW1:IWF hJ1∧hJ1.V.length=2∧hJ1.roots.length=2:=⟨((iwf_fresh 2).doN (nx:=1) (by decide) .make hx1 i64_0 false hE1).1,rfl,rfl⟩
theorem hW2 {n:Int} (hn:I64 n):IWF (hJ2 n)∧(hJ2 n).V.length≤5002∧(hJ2 n).roots.length=2:=by
 obtain⟨a,b,c⟩:=hW1.1.doN (nx:=1) (by decide) .int (hx2 n) hn false (hE2 n)
 exact⟨a,b,c⟩
theorem hW3 {n:Int} (hn:I64 n):IWF (hJ3 n)∧(hJ3 n).V.length≤10002∧(hJ3 n).roots.length=2:=by
 obtain⟨a1,b1,c1⟩:=hW2 hn
 obtain⟨a,b,c⟩:=a1.doN (nx:=1) (by omega) .put hx3 i64_0 false (hE3 n)
 exact⟨a,by have:(hJ3 n).V.length≤(hJ2 n).V.length+5000:=b;omega,c.trans c1⟩
section
variable {I I':Ideal} {M M':Mem} {nx nx' c n:Int} {is:Bool} {ak:AK} {x:ActP}
theorem AOut.goes {s:Nat} (h:AOut I nx 50 M ak x c n is I' nx' M') (hH:Holds I M) (hI:HInv M nx) (he:errI I ak x=0) (hs:(I.P.map fun a=>1+szW I.V a).sum≤s) (hq:(s:Int)+needI ak x≤50) (hk:ak≠.look):c=0∧(I',nx')=doN I nx ak x false∧Holds I' M':=by
 have hi:=h.plain hk
 subst hi
 obtain⟨D,f,hR⟩:=hH
 have hle:=hR.live_le (chk_zero hI.chk).1
 rcases h.res with⟨r1,-,-,r4⟩|⟨r1,-,-,-,-,⟨-,-,r⟩|⟨-,r⟩⟩
 ·exact⟨r1,r4,h.holds⟩
 ·omega
 ·exact absurd (r.symm.trans he) r1
end
end Go.Proofs.YtelhoppfidibiaaGreatDoor
namespace Go.Proofs.YtelhoppfidibiaaGreatDoor
open Go.RowKit
def cellK (u:Int):Int:=if 0≤ptsW u then 4 else if u%4=1 then 3 else u/4
def cellN (u:Int):Int:=if 0≤ptsW u then 0 else if u%4=1 then numW u else 0
def cellP (pl:Nat→Nat) (u:Int):Option Addr:=if 0≤ptsW u then some ⟨pl (ptsW u).toNat,0,none⟩ else none
structure CellAt (w:World) (b o:Nat) (pl:Nat→Nat) (u:Int):Prop where
 k:w.cell? ⟨b,o,none⟩=some (.int .i64 (cellK u))
 n:w.cell? ⟨b,o+1,none⟩=some (.int .i64 (cellN u))
 p:w.cell? ⟨b,o+2,none⟩=some (.pointer (cellP pl u))
structure MPl where
 pl:Nat→Nat
 fl:Nat→Nat
 mb:Nat
 G:Nat
 wv:Value
def fldV (X:MPl) (V:List Int) (a:Nat):Value:=if hKind (wat V a)<8 then .slice none 0 0 else .slice (some ⟨X.fl a,0,none⟩) (szW V a) (szW V a)
structure NodeAt (w:World) (V:List Int) (X:MPl) (a:Nat) (sr:Int):Prop where
 blk:∃ cur t,w.heap[X.pl a]?=some (.cells cur t (0,0))
 kind:w.cell? ⟨X.pl a,0,none⟩=some (.int .i64 (hKind (wat V a)))
 flds:w.cell? ⟨X.pl a,1,none⟩=some (fldV X V a)
 num:w.cell? ⟨X.pl a,2,none⟩=some (.int .i64 (if hKind (wat V a)=1 then longOf V a else 0))
 str:w.cell? ⟨X.pl a,3,none⟩=some (.string (if hKind (wat V a)=2 then textOf V a else ⟨#[]⟩))
 ser:w.cell? ⟨X.pl a,4,none⟩=some (.int .i64 sr)
 fblk:8≤hKind (wat V a)→∃ cur t,w.heap[X.fl a]?=some (.cells cur t (0,0))
 fld:8≤hKind (wat V a)→∀ k,k<szW V a→CellAt w (X.fl a) (k*3) X.pl (wat V (a+1+k))
def serZ (I:Ideal) (a:Nat):Int:=(serI I (a:Int)).getD 0
def wkV (X:MPl) (I:Ideal):List Value:=I.weak.map fun u=>.pointer (some ⟨X.pl (ptsW u).toNat,0,none⟩)
structure Tags (I:Ideal) (X:MPl) (R:Nat→Nat):Prop where
 m:R X.mb=0
 g:R X.G=1
 w:∀ k,X.wv.ownBlock=some k→R k=2
 p:∀ a∈I.P,R (X.pl a)=2*a+3
 f:∀ a∈I.P,8≤hKind (wat I.V a)→R (X.fl a)=2*a+4
structure RMod (w:World) (B:Nat) (I:Ideal) (nx:Int) (X:MPl):Prop where
 mblk:∃ cur t,w.heap[X.mb]?=some (.cells cur t (0,0))
 roots:w.cell? ⟨X.mb,0,none⟩=some (.slice (some ⟨X.G,0,none⟩) I.roots.length I.roots.length)
 weak:w.cell? ⟨X.mb,1,none⟩=some X.wv
 next:w.cell? ⟨X.mb,2,none⟩=some (.int .i64 (nx-1))
 gblk:∃ cur t,w.heap[X.G]?=some (.cells cur t (0,0))
 root:∀ i,i<I.roots.length→CellAt w X.G (i*3) X.pl (I.roots.getD i 0)
 wk:Tail w B 49 X.wv (wkV X I)
 node:∀ a∈I.P,NodeAt w I.V X a (serZ I a)
 low:B≤X.mb∧B≤X.G∧∀ a∈I.P,B≤X.pl a∧(8≤hKind (wat I.V a)→B≤X.fl a)
 tags:∃ R,Tags I X R
def ML (I:Ideal) (X:MPl) (k:Nat):Prop:=k=X.mb∨k=X.G∨X.wv.ownBlock=some k∨∃ a∈I.P,k=X.pl a∨(8≤hKind (wat I.V a)∧k=X.fl a)
theorem heap_lt {w:World} {b:Nat} (h:∃ cur t,w.heap[b]?=some (.cells cur t (0,0))):b<w.heap.size:=by
 obtain⟨cur,t,hc⟩:=h
 exact (Array.getElem?_eq_some_iff.1 hc).1
theorem heap_frozen {w:World} {b:Nat} (h:∃ cur t,w.heap[b]?=some (.cells cur t (0,0))) (j:Nat):w.frozen? ⟨b,j,none⟩=false:=by
 obtain⟨cur,t,hc⟩:=h
 simp[World.frozen?,hc]
section
variable {w w':World} {b o B:Nat} {pl:Nat→Nat} {u nx sr:Int} {L:Nat→Prop} {V:List Int} {X:MPl} {a:Nat} {I:Ideal}
theorem CellAt.keep (h:CellAt w b o pl u) (k:Keep L w w') (hb:¬L b):CellAt w' b o pl u :=
 ⟨k.cell (p:=⟨b,o,none⟩) hb h.k,k.cell (p:=⟨b,o+1,none⟩) hb h.n,k.cell (p:=⟨b,o+2,none⟩) hb h.p⟩
theorem CellAt.ext (h:CellAt w b o pl u) (k:Ext w w'):CellAt w' b o pl u:=h.keep (L:=fun _=>False) (Keep.of_ext k) (fun q=>q)
theorem keep_blk (k:Keep L w w') (hb:¬L b) (h:∃ cur t,w.heap[b]?=some (.cells cur t (0,0))):∃ cur t,w'.heap[b]?=some (.cells cur t (0,0)):=by
 rw[k.block b (heap_lt h) hb];exact h
theorem NodeAt.keep (h:NodeAt w V X a sr) (k:Keep L w w') (h1:¬L (X.pl a)) (h2:8≤hKind (wat V a)→¬L (X.fl a)):NodeAt w' V X a sr :=
 ⟨keep_blk k h1 h.blk,k.cell (p:=⟨X.pl a,0,none⟩) h1 h.kind,k.cell (p:=⟨X.pl a,1,none⟩) h1 h.flds,k.cell (p:=⟨X.pl a,2,none⟩) h1 h.num,k.cell (p:=⟨X.pl a,3,none⟩) h1 h.str,k.cell (p:=⟨X.pl a,4,none⟩) h1 h.ser,
  fun q=>keep_blk k (h2 q) (h.fblk q),fun q j hj=>(h.fld q j hj).keep k (h2 q)⟩
theorem RMod.keep (h:RMod w B I nx X) (k:Keep L w w') (hL:∀ i,L i→¬ML I X i):RMod w' B I nx X:=by
 have m1:¬L X.mb:=fun q=>hL _ q (Or.inl rfl)
 have m2:¬L X.G:=fun q=>hL _ q (Or.inr (Or.inl rfl))
 have m3:∀ g,X.wv.ownBlock=some g→¬L g:=fun g hg q=>hL _ q (Or.inr (Or.inr (Or.inl hg)))
 have m4:∀ a∈I.P,¬L (X.pl a):=fun a ha q=>hL _ q (Or.inr (Or.inr (Or.inr ⟨a,ha,Or.inl rfl⟩)))
 have m5:∀ a∈I.P,8≤hKind (wat I.V a)→¬L (X.fl a):=fun a ha h8 q=>hL _ q (Or.inr (Or.inr (Or.inr ⟨a,ha,Or.inr ⟨h8,rfl⟩⟩)))
 exact⟨keep_blk k m1 h.mblk,k.cell (p:=⟨X.mb,0,none⟩) m1 h.roots,k.cell (p:=⟨X.mb,1,none⟩) m1 h.weak,k.cell (p:=⟨X.mb,2,none⟩) m1 h.next,keep_blk k m2 h.gblk,fun i hi=>(h.root i hi).keep k m2,h.wk.keep k m3,fun a ha=>(h.node a ha).keep k (m4 a ha) (m5 a ha),h.low,h.tags⟩
theorem RMod.ext (h:RMod w B I nx X) (k:Ext w w'):RMod w' B I nx X:=h.keep (L:=fun _=>False) (Keep.of_ext k) (fun i q=>q.elim)
theorem RMod.own (h:RMod w B I nx X) {k:Nat} (hk:ML I X k):B≤k∧k<w.heap.size:=by
 rcases hk with rfl|rfl|hk|⟨a,ha,rfl|⟨h8,rfl⟩⟩
 ·exact⟨h.low.1,heap_lt h.mblk⟩
 ·exact⟨h.low.2.1,heap_lt h.gblk⟩
 ·exact h.wk.lt hk
 ·exact⟨(h.low.2.2 a ha).1,heap_lt (h.node a ha).blk⟩
 ·exact⟨(h.low.2.2 a ha).2 h8,heap_lt ((h.node a ha).fblk h8)⟩
theorem RMod.inj (h:RMod w B I nx X) {a c:Nat} (ha:a∈I.P) (hc:c∈I.P) (e:X.pl a=X.pl c):a=c:=by
 obtain⟨R,t⟩:=h.tags
 have h1:=t.p a ha
 have h2:=t.p c hc
 rw[e] at h1
 omega
end
def ptrs (pl:Nat→Nat) (l:List Ob):List Value:=l.map fun o=>.pointer (some ⟨pl o.a,0,none⟩)
theorem ptrs_at (pl:Nat→Nat) (l:List Ob) (k:Nat) (h:k<l.length):(ptrs pl l)[k]?=some (.pointer (some ⟨pl l[k].a,0,none⟩)):=by simp[ptrs,h]
theorem ptrs_snoc (pl:Nat→Nat) (l:List Ob) (o:Ob):ptrs pl (l++[o])=ptrs pl l++[.pointer (some ⟨pl o.a,0,none⟩)]:=by simp[ptrs]
structure GathI (I:Ideal) (l:List Ob):Prop where
 ob:∀ o∈l,o=obW I.V o.a∧o.a∈I.P
 nodup:(l.map (·.a)).Nodup
theorem GathI.nil (I:Ideal):GathI I []:=⟨fun o h=>by simp at h,by simp⟩
theorem GathI.len {I:Ideal} (h:IWF I) {l:List Ob} (g:GathI I l):l.length≤I.V.length:=by
 have:=len_sub (l.map (·.a)) (List.range I.V.length) g.nodup fun a ha=>by
  obtain⟨o,ho,rfl⟩:=List.mem_map.1 ha
  exact List.mem_range.2 (by have:=h.dom _ (g.ob o ho).2;omega)
 simpa using this
theorem GathI.come {I:Ideal} (h:IWF I) (hl:I.V.length≤1000000000) {l:List Ob} (g:GathI I l) {u:Int} (hu:WordOk I.P u):GathI I (comeP I.V l u):=by
 unfold comeP
 split
 ·rename_i hc
  obtain⟨a,ha⟩:∃ a:Nat,ptsW u=(a:Int):=⟨(ptsW u).toNat,by omega⟩
  have hm:=(WordOk.pts h hl hu ha).1
  rw[ha,Int.toNat_natCast]
  refine⟨fun o ho=>?_,?_⟩
  ·rcases List.mem_append.1 ho with q|q
   ·exact g.ob o q
   ·rw[List.mem_singleton.1 q];exact⟨rfl,hm⟩
  ·rw[List.map_append,List.nodup_append]
   refine⟨g.nodup,by simp,fun x hx y hy e=>?_⟩
   simp only[List.map_cons,List.map_nil,List.mem_singleton] at hy
   have hin:inSt (ats l) (ptsW u)=true:=by
    rw[ha]
    obtain⟨o,ho,rfl⟩:=List.mem_map.1 hx
    refine List.contains_iff_mem.2 (List.mem_map.2 ⟨o,ho,?_⟩)
    rw[e,hy];rfl
   rw[hin] at hc
   exact absurd hc.2 (by simp)
 ·exact g
theorem comesI_snoc (V:List Int) (out:List Ob) (us:List Int) (k:Nat) (hk:k<us.length):comesP V out (us.take (k+1))=comeP V (comesP V out (us.take k)) (us.getD k 0):=by
 unfold comesP
 rw[List.take_add_one,List.getElem?_eq_getElem hk,List.foldl_append,List.getD_eq_getElem?_getD,List.getElem?_eq_getElem hk]
 rfl
end Go.Proofs.YtelhoppfidibiaaGreatDoor
namespace Go.Proofs.YtelhoppfidibiaaGreatDoor
open Go.RowKit
theorem objAt_here {l:List Ob} {k a:Nat} (hk:k<l.length) (h:∀ j (hj:j<k),l[j].a≠a) (e:l[k].a=a):objAt l (a:Int)=(k:Int):=by
 unfold objAt
 rw[List.findIdx?_eq_some_iff_getElem.2 ⟨hk,by simp;omega,fun j hj=>by have:=h j hj;simp;omega⟩];rfl
theorem objAt_none {l:List Ob} {a:Nat} (h:∀ j (hj:j<l.length),l[j].a≠a):objAt l (a:Int)=-1:=by
 unfold objAt
 rw[List.findIdx?_eq_none_iff.2 fun x hx=>?_];rfl
 obtain⟨j,hj,rfl⟩:=List.getElem_of_mem hx
 have:=h j hj
 simp;omega
def PB (w:World) (b:Nat):Prop:=∃ cur t,w.heap[b]?=some (.cells cur t (0,0))
theorem PB.ext {w w':World} {b:Nat} (h:PB w b) (k:Ext w w'):PB w' b:=keep_blk (L:=fun _=>False) (Keep.of_ext k) (fun q=>q) h
theorem infoNode:(Tryz.prog.info? 102).map (fun i=>(i.zero,i.size,i.bytes))=some (some (.agg #[.int .i64 0,.slice none 0 0,.int .i64 0,.string ⟨#[]⟩,.int .i64 0]),5,64):=by kernel_rfl
theorem undPN:Tryz.prog.underlying 49=some (.pointer 102):=by kernel_rfl
theorem eql_same (w:World) (b:Nat):(binOp .eql 49 (.pointer (some ⟨b,0,none⟩)) (.pointer (some ⟨b,0,none⟩))).run Tryz.prog w=.ok (.bool true) w:=by
 obtain⟨i0,hi,-,-,-⟩:=info_parts infoNode
 exact run_eql_ptr_same w _ undPN hi
theorem eql_other {w:World} {b c:Nat} (hne:b≠c) (hb:PB w b) (hc:PB w c):(binOp .eql 49 (.pointer (some ⟨b,0,none⟩)) (.pointer (some ⟨c,0,none⟩))).run Tryz.prog w=.ok (.bool false) w:=by
 obtain⟨i0,hi,-,hz,-⟩:=info_parts infoNode
 obtain⟨ca,ta,h1⟩:=hb
 obtain⟨cb,tb,h2⟩:=hc
 exact run_eql_ptr_other w undPN hi (by rw[hz];decide) (fun e=>hne (by injection e)) h1 h2
theorem nodeAt_walk (A:Option Addr) (C:Nat) (l:List Ob) (pl:Nat→Nat) (a:Nat) (w:World) (hR:RSl w A (ptrs pl l)) (hl:l.length≤1000000000) (hinj:∀ o∈l,pl o.a=pl a→o.a=a) (hpb:∀ o∈l,PB w (pl o.a)) (hpa:PB w (pl a)) :
  Calls Tryz.prog 120 #[.slice A l.length C,.pointer (some ⟨pl a,0,none⟩)] w fun e w'=>e=.returned (.int .i64 (objAt l (a:Int)))∧Ext w w':=by
 have HR:=Lib.hid hR
 have HI:=Lib.hid hinj
 have HPB:=Lib.hid hpb
 have HPA:=Lib.hid hpa
 clear hR hinj hpb hpa
 go_enter Tryz.func120,Tryz.ntmps120
 go_upto_region 2 with fail
 go_loopg [5] (l.length) (fun r i wr=>∃ (k:Nat),k+r=l.length∧i=.int .i64 (k:Int)∧Hid (∀ j (hj:j<l.length),j<k→l[j].a≠a)∧Hid (Ext w wr))
 case atStart=>exact⟨0,by omega,rfl,fun j _ hj=>by omega,Ext.refl _⟩
 case round =>
  obtain⟨k,hk,rfl,hN,hE⟩:=hrel
  cases gk with
  | succ r =>
   have hlt:k<l.length:=by omega
   have hltz:(k:Int)<(l.length:Int):=by omega
   obtain⟨rb,ro,hA,hc0⟩:=(HR.out.ext hE.out) k _ (ptrs_at pl l k hlt)
   subst hA
   have HLT:Hid (k<l.length):=hlt
   obtain⟨x,hx⟩:∃ x,l[k]=x:=⟨_,rfl⟩
   have hc:wr.cell? ⟨rb,ro+k,none⟩=some (.pointer (some ⟨pl x.a,0,none⟩)):=by rw[←hx];exact hc0
   have hmem:x∈l:=by rw[←hx];exact List.getElem_mem hlt
   have HX:Hid (∀ (h:k<l.length),l[k]=x):=fun h=>hx
   have HM:=Lib.hid hmem
   have HK:=Lib.hid hk
   clear hx hmem hk hc0 hlt
   by_cases q:pl x.a=pl a
   ·rw[q] at hc
    have hr:=eql_same wr (pl a)
    go_wp2
    go_ret
    exact⟨by rw[objAt_here HLT.out (fun j hj=>hN.out j (by have:=HLT.out;omega) hj) (by rw[HX.out HLT.out];exact HI.out x HM.out q)];rfl,hE.out⟩
   ·have hr:=eql_other q ((HPB.out x HM.out).ext hE.out) (HPA.out.ext hE.out)
    go_wp2
    go_roundg r
    case measure=>omega
    case rel =>
     refine⟨k+1,by have:=HK.out;omega,by go_num,fun j hj hj2=>?_,hE⟩
     by_cases e:j=k
     ·subst e;rw[HX.out hj];exact fun e=>q (by rw[e])
     ·exact hN.out j hj (by omega)
  | zero =>
   obtain rfl:k=l.length:=by omega
   have hltz:¬((l.length:Nat):Int)<((l.length:Nat):Int):=by omega
   clear hk
   go_wp2
   go_ret
   exact⟨by rw[objAt_none fun j hj=>hN.out j hj hj];rfl,hE.out⟩
theorem infoPN:(Tryz.prog.info? 49).map (fun i=>(i.zero,i.size,i.bytes))=some (some (.pointer none),1,8):=by kernel_rfl
theorem undPNs:Tryz.prog.underlying 54=some (.slice 49):=by kernel_rfl
def OwnPtrs (w:World) (B:Nat) (a:Option Addr) (c:Nat) (pl:Nat→Nat) (l:List Ob):Prop:=w.ownsRow B 49 1 (.slice a l.length c) l.length (ptrs pl l)
def MeetPost (w:World) (B:Nat) (oa:Option Addr) (oc n:Nat) (pl:Nat→Nat) (l:List Ob) (e:Ending) (w':World):Prop :=
 ∃ a c,e=.returned (.slice a l.length c)∧OwnPtrs w' B a c pl l∧Keep (fun k=>(Value.slice oa n oc).ownBlock=some k) w w'∧∀ k,(Value.slice a l.length c).ownBlock=some k→(Value.slice oa n oc).ownBlock=some k∨w.heap.size≤k
theorem objAt_neg (l:List Ob) (a:Nat):(0≤objAt l (a:Int))↔inSt (ats l) (a:Int)=true:=by
 have h:decide (0≤objAt l (a:Int))=inSt (ats l) (a:Int):=objAt_nonneg l (a:Int)
 rw[←h];simp
theorem cellK_no {P:List Nat} {u:Int} (h:WordOk P u) (hp:¬0≤ptsW u) (hs:∀ a∈P,a≤1000000000):cellK u≠4∧cellP id u=none:=by
 have e:cellP id u=none:=if_neg hp
 refine⟨?_,e⟩
 unfold cellK
 rw[if_neg hp]
 rcases h with⟨a,ha,rfl⟩|⟨n,-,rfl⟩|⟨c,hc,rfl⟩
 ·exact absurd (by rw[(pts_addr (hs a ha)).1];omega) hp
 ·have hk:kindW (intW n)=1:=(intW_wd n).2.2
  have hk:intW n%4=1:=hk
  rw[if_pos hk];decide
 ·have hk:kindW (constW c)=2:=(constW_wd c).2.2
  have hk:constW c%4=2:=hk
  rw[if_neg (by omega)]
  unfold constW
  omega
theorem meet_no (v:Value) (k n:Int) (p:Option Addr) (w:World) (hk:k≠4):Calls Tryz.prog 119 #[v,.agg #[.int .i64 k,.int .i64 n,.pointer p]] w fun e w'=>e=.returned v∧Ext w w':=by
 have hb:(k==4)=false:=by simpa using hk
 go_enter Tryz.func119,Tryz.ntmps119
 go_wp2
 go_ret
 exact⟨rfl,(Ext.refl _).alloc_ _⟩
theorem meet_yes (B:Nat) (oa:Option Addr) (oc:Nat) (pl:Nat→Nat) (l:List Ob) (a:Nat) (o:Ob) (n:Int) (w:World) (hB:B≤w.heap.size) (hl:l.length≤1000000000) (hO:OwnPtrs w B oa oc pl l) (hinj:∀ o∈l,pl o.a=pl a→o.a=a) (hpb:∀ o∈l,PB w (pl o.a)) (hpa:PB w (pl a)) (ho:o.a=a) :
  Calls Tryz.prog 119 #[.slice oa l.length oc,.agg #[.int .i64 4,.int .i64 n,.pointer (some ⟨pl a,0,none⟩)]] w (MeetPost w B oa oc l.length pl (if 0≤objAt l (a:Int) then l else l++[o])):=by
 obtain⟨i0,hif,hz0,hz1,hz2⟩:=info_parts infoPN
 have HO:=Lib.hid hO
 have HR:=Lib.hid ((row_rsl hO).1)
 have HI:=Lib.hid hinj
 have HPB:Hid (∀ w',Ext w w'→(∀ o∈l,PB w' (pl o.a))∧PB w' (pl a)):=fun w' hx=>⟨fun o ho=>(hpb o ho).ext hx,hpa.ext hx⟩
 clear hO hinj hpb hpa
 by_cases hin:0≤objAt l (a:Int)
 ·rw[if_pos hin]
  go_enter Tryz.func119,Tryz.ntmps119
  go_wp2_with (go_at_call 120;refine (nodeAt_walk _ _ l pl a _ (HR.out.ext ((Ext.refl _).alloc_ _)) hl HI.out (HPB.out _ ((Ext.refl _).alloc_ _)).1 (HPB.out _ ((Ext.refl _).alloc_ _)).2).mono ?_;rintro e w1 ⟨rfl,hq⟩;have HX1:Hid (Ext w w1):=((Ext.refl w).alloc_ _).trans_ hq;clear hq)
  go_ret
  exact⟨oa,oc,rfl,own_le HO.out (Nat.le_refl _) HX1.out,Keep.of_ext HX1.out,fun k hk=>Or.inl hk⟩
 ·rw[if_neg hin]
  go_enter Tryz.func119,Tryz.ntmps119
  go_upto_region 3 with (go_at_call 120;refine (nodeAt_walk _ _ l pl a _ (HR.out.ext ((Ext.refl _).alloc_ _)) hl HI.out (HPB.out _ ((Ext.refl _).alloc_ _)).1 (HPB.out _ ((Ext.refl _).alloc_ _)).2).mono ?_;rintro e w1 ⟨rfl,hq⟩;have HX1:Hid (Ext w w1):=((Ext.refl w).alloc_ _).trans_ hq;have q2:w1.cell? ⟨w.heap.size,2,none⟩=some (.pointer (some ⟨pl a,0,none⟩)):=hq.cell_ (by rw[World.cell?,heap_alloc_new];rfl);clear hq)
  go_wp2_with (at_builtin;(refine wpList_append_src rfl _ _ 54 rfl B 49 i0 (.pointer none) 1 8 undPNs hif hz0 hz1 hz2 rfl (by decide) _ l.length (ptrs pl l) rfl (World.ownsRow.alloc (own_le HO.out (Nat.le_refl _) HX1.out) _) (some ⟨_,0,none⟩) 1 1 [.pointer (some ⟨pl a,0,none⟩)] rfl (fun h=>by cases h) (Nat.le_refl _) rfl ?c1 ?c2 ?c3 ?c4 ?c5 ?_))
  case c1=>exact rsl_block (heap_alloc_new _ _)
  case c2=>intro u hu;simp at hu;subst hu;rfl
  case c3=>unfold maxLen;omega
  case c4=>omega
  case c5=>have:=HX1.out.size;simp;omega
  ·intro a' c' w2 hown hgrow hat'
   have HOW:=Lib.hid hown
   have HGR:=Lib.hid hgrow
   have HAT:=Lib.hid hat'
   clear hown hgrow hat'
   go_wp2
   go_ret
   refine⟨a',c',?_,?_,?_,fun k hk=>?_⟩
   ·simp
   ·unfold OwnPtrs
    rw[ptrs_snoc,List.length_append,ho]
    exact HOW.out
   ·exact ((Keep.of_ext HX1.out).alloc_ _).trans (Keep.of_grown HGR.out fun k hk=>Or.inl hk)
   ·rw[List.length_append] at hk
    have hk':(Value.slice a' (l.length+1) c').ownBlock=some k:=hk
    rcases HAT.out with q|q
    ·exact Or.inl (by rw[←q];exact hk')
    ·rw[q] at hk'
     injection hk' with hk'
     right
     have:=HX1.out.size
     have hk':w1.heap.size+1=k∨w1.heap.size=k:=by first|exact Or.inl hk'|exact Or.inr hk'|(have h9:=hk';simp at h9;omega)
     omega
end Go.Proofs.YtelhoppfidibiaaGreatDoor
namespace Go.Proofs.YtelhoppfidibiaaGreatDoor
open Go.RowKit
theorem comeP_at (V:List Int) (l:List Ob) {u:Int} {a:Nat} (h:ptsW u=(a:Int)):comeP V l u=if 0≤objAt l (a:Int) then l else l++[obW V a]:=by
 unfold comeP
 rw[h,Int.toNat_natCast]
 by_cases hc:0≤objAt l (a:Int)
 ·rw[if_pos hc,if_neg]
  rw[(objAt_neg l a).1 hc];simp
 ·rw[if_neg hc,if_pos]
  refine⟨by omega,?_⟩
  cases hq:inSt (ats l) (a:Int) with
  | false=>rfl
  | true=>exact absurd ((objAt_neg l a).2 hq) hc
theorem comeP_no (V:List Int) (l:List Ob) {u:Int} (h:¬0≤ptsW u):comeP V l u=l:=by
 unfold comeP;rw[if_neg (fun q=>h q.1)]
theorem meet_any {w0 w:World} {B0 B:Nat} {I:Ideal} {nx:Int} {X:MPl} (hM:RMod w0 B0 I nx X) (hx:Ext w0 w) (hw:IWF I) (hl:I.V.length≤1000000000) {u:Int} (hu:WordOk I.P u) (oa:Option Addr) (oc:Nat) (l:List Ob) (hB:B≤w.heap.size) (hg:GathI I l) (hO:OwnPtrs w B oa oc X.pl l) :
  Calls Tryz.prog 119 #[.slice oa l.length oc,.agg #[.int .i64 (cellK u),.int .i64 (cellN u),.pointer (cellP X.pl u)]] w (MeetPost w B oa oc l.length X.pl (comeP I.V l u)):=by
 have hll:=hg.len hw
 have hPs:∀ a∈I.P,a≤1000000000:=fun a ha=>by have:=hw.dom a ha;omega
 by_cases hp:0≤ptsW u
 ·obtain⟨a,ha⟩:∃ a:Nat,ptsW u=(a:Int):=⟨(ptsW u).toNat,by omega⟩
  have hm:=(WordOk.pts hw hl hu ha).1
  have e1:cellK u=4:=if_pos hp
  have e2:cellP X.pl u=some ⟨X.pl a,0,none⟩:=by unfold cellP;rw[if_pos hp,ha,Int.toNat_natCast]
  rw[e1,e2,comeP_at I.V l ha]
  exact meet_yes B oa oc X.pl l a (obW I.V a) (cellN u) w hB (by omega) hO (fun o ho e=>hM.inj (hg.ob o ho).2 hm e) (fun o ho=>PB.ext ((hM.node _ (hg.ob o ho).2).blk) hx) (PB.ext ((hM.node a hm).blk) hx) rfl
 ·rw[comeP_no I.V l hp]
  refine (meet_no _ _ _ _ w (cellK_no hu hp hPs).1).mono ?_
  rintro e w' ⟨rfl,hq⟩
  exact⟨oa,oc,rfl,own_le hO (Nat.le_refl _) hq,Keep.of_ext hq,fun k hk=>Or.inl hk⟩
def ReachPost (w:World) (pl:Nat→Nat) (l:List Ob) (e:Ending) (w':World):Prop :=
 ∃ a c,e=.returned (.slice a l.length c)∧OwnPtrs w' w.heap.size a c pl l∧Ext w w'
theorem modReach_walk (w:World) (B:Nat) (I:Ideal) (nx:Int) (X:MPl) (hM:RMod w B I nx X) (hw:IWF I) (hl:I.V.length≤1000000000) (hrl:I.roots.length≤1000000) :
  Calls Tryz.prog 63 #[.pointer (some ⟨X.mb,0,none⟩)] w (ReachPost w X.pl (reachI I)):=by
 have HM:=Lib.hid hM
 have HW:=Lib.hid hw
 have q0:=hM.roots
 clear hM hw
 go_enter Tryz.func63,Tryz.ntmps63
 go_upto_region 3 with fail
 go_loopg [4,3] (I.roots.length) (fun r i out wr=>∃ (k:Nat) (v:List Ob) (oa:Option Addr) (oc:Nat),k+r=I.roots.length∧i=.int .i64 (k:Int)∧out=.slice oa v.length oc∧Hid (OwnPtrs wr w.heap.size oa oc X.pl v)∧Hid (GathI I v) ∧
   Hid (v=comesP I.V [] (I.roots.take k))∧Hid (Ext w wr))
 case atStart=>exact⟨0,[],none,0,by omega,rfl,rfl,World.ownsRow_nil _ _ _ _,GathI.nil I,rfl,Ext.refl w⟩
 case round =>
  obtain⟨k,v,oa,oc,hk,rfl,rfl,hO,hGa,hV,hE⟩:=hrel
  have hMr:=HM.out.ext hE.out
  have r0:=hMr.roots
  cases gk with
  | succ r =>
   have hlt:k<I.roots.length:=by omega
   have hltz:(k:Int)<(I.roots.length:Int):=by omega
   obtain⟨c0,c1,c2⟩:=hMr.root k hlt
   have hu:=HW.out.root hlt
   have hsn:=comesI_snoc I.V [] I.roots k hlt
   have f1:IntKind.i64.wrap ((k:Int)+1)=((k+1:Nat):Int):=by rw[IntWalk.i64_in _ (by omega)];omega
   have hsz:=hE.out.size
   generalize I.roots.getD k 0=u at *
   have HU:=Lib.hid hu
   have HK:=Lib.hid hk
   have HSN:=Lib.hid hsn
   clear hMr hu hk hsn hlt
   go_wp2_with (go_at_call 119;refine (meet_any HM.out hE.out HW.out hl HU.out oa oc v hsz hGa.out hO.out).mono ?_;rintro e w2 ⟨a2,c2',rfl,q1,q2,q3⟩;have Q1:=Lib.hid q1;have Q2:=Lib.hid q2;clear q1 q2 q3)
   go_roundg r
   case measure=>omega
   case rel =>
    refine⟨k+1,_,a2,c2',by have:=HK.out;omega,by go_num,rfl,Q1.out,hGa.out.come HW.out hl HU.out,?_,Ext.keep hE.out Q2.out fun i hi=>(World.ownsRow.lt hO.out i hi).1⟩
    show _=_
    rw[HSN.out,←hV.out]
  | zero =>
   obtain rfl:k=I.roots.length:=by omega
   have hltz:¬((I.roots.length:Nat):Int)<(I.roots.length:Int):=by omega
   have hV':v=comesP I.V [] I.roots:=by have:=hV.out;rw[List.take_length] at this;exact this
   have HV:=Lib.hid hV'
   clear hV hV' hMr hk
   obtain⟨wA,rfl⟩:∃ x,x=wr:=⟨wr,rfl⟩
   go_upto_region 7 with fail
   go_loopg [5,3] (I.V.length+1) (fun r i out wr2=>∃ (k:Nat) (v:List Ob) (oa:Option Addr) (oc:Nat),k+r=I.V.length+1∧k≤v.length∧i=.int .i64 (k:Int)∧out=.slice oa v.length oc∧Hid (OwnPtrs wr2 w.heap.size oa oc X.pl v)∧Hid (GathI I v) ∧
     Hid (reachG I.V (I.V.length-k) k v=reachI I)∧Hid (Ext w wr2))
   case atStart=>exact⟨0,v,oa,oc,by omega,Nat.zero_le _,rfl,rfl,hO,hGa,(by show reachG I.V (I.V.length-0) 0 v=reachI I;rw[HV.out];rfl),hE⟩
   case round =>
    clear HV hO hGa hE hltz r0
    obtain⟨k,v,oa,oc,hk,hk2,rfl,rfl,hO,hGa,hV,hE⟩:=hrel
    have hglen:=hGa.out.len HW.out
    have hMr:=HM.out.ext hE.out
    have hnz:gk≠0:=fun q=>by omega
    obtain⟨r,rfl⟩:∃ r,gk=r+1:=⟨gk-1,by omega⟩
    by_cases hlt:k<v.length
    ·have hltz:(k:Int)<(v.length:Int):=by omega
     obtain⟨ob,oo,hoa,c0⟩:=(row_rsl hO.out).1 _ _ (ptrs_at X.pl v k hlt)
     subst hoa
     have hmem:=List.getElem_mem hlt
     obtain⟨g1,g2⟩:=hGa.out.ob _ hmem
     obtain⟨f,hf⟩:∃ f,I.V.length-k=f+1:=⟨I.V.length-k-1,by omega⟩
     have hstep:reachG I.V f (k+1) (stepP I.V v v[k])=reachI I:=by
      have:=hV.out
      rw[hf] at this
      unfold reachG at this
      rw[List.getElem?_eq_getElem hlt] at this
      exact this
     have HGET:Hid (v[k]?=some v[k]):=List.getElem?_eq_getElem hlt
     have hnd:=hMr.node _ g2
     generalize hx:v[k]=x at *
     have n1:=hnd.flds
     have hxw:x.w=wat I.V x.a:=by rw[g1];rfl
     have hxn:szW I.V x.a=x.n:=by unfold szW Ob.n;rw[hxw]
     have HST:=Lib.hid hstep
     have HG2:=Lib.hid g2
     have HF:=Lib.hid hf
     have HXW:=Lib.hid hxw
     have HXN:=Lib.hid hxn
     have HKV:Hid (k<v.length):=hlt
     have HK:=Lib.hid hk
     have f1:IntKind.i64.wrap ((k:Int)+1)=((k+1:Nat):Int):=by rw[IntWalk.i64_in _ (by omega)];omega
     clear hV hstep hf hmem hx hnd hxw hxn g1 g2 hk
     by_cases hk8:hKind (wat I.V x.a)<8
     ·have e1:fldV X I.V x.a=.slice none 0 0:=if_pos hk8
      rw[e1] at n1
      have hst2:stepP I.V v x=v:=by unfold stepP;rw[HXW.out,if_pos (show rawB (hKind (wat I.V x.a))=true by unfold rawB;exact decide_eq_true hk8)]
      have HS2:=Lib.hid hst2
      clear hst2 hlt
      go_wp2
      refine wp_loop_rounds 1 ?_
      rw[rounds_succ]
      go_wp2
      go_roundg r
      case measure=>omega
      case rel =>
       refine⟨k+1,v,_,oc,by have:=HK.out;omega,by have:=HKV.out;omega,by go_num,rfl,hO,hGa,?_,hE⟩
       have h:=HST.out
       rw[HS2.out] at h
       show reachG I.V (I.V.length-(k+1)) (k+1) v=reachI I
       rw[show I.V.length-(k+1)=f by have:=HF.out;omega]
       exact h
     ·have e1:fldV X I.V x.a=.slice (some ⟨X.fl x.a,0,none⟩) (szW I.V x.a) (szW I.V x.a):=if_neg hk8
      have HK8:Hid (8≤hKind (wat I.V x.a)):=by unfold Hid;omega
      have hsz4:szW I.V x.a≤1000000000:=by have:=HW.out.dom _ HG2.out;omega
      have HE1:=Lib.hid e1
      obtain⟨sz,hsz⟩:∃ sz,szW I.V x.a=sz:=⟨_,rfl⟩
      rw[hsz] at hsz4
      have HSZ:=Lib.hid hsz
      clear e1 hsz n1 c0 hlt hMr
      go_upto_region 10 with fail
      go_loopg [6,3] sz (fun r3 i out wr3=>∃ (j:Nat) (v3:List Ob) (oa:Option Addr) (oc:Nat),j+r3=sz∧i=.int .i64 (j:Int)∧out=.slice oa v3.length oc∧Hid (OwnPtrs wr3 w.heap.size oa oc X.pl v3)∧Hid (GathI I v3) ∧
        Hid (v3=comesP I.V v ((fldsW I.V x).take j))∧Hid (v3[k]?=some x)∧Hid (Ext w wr3))
      case atStart=>exact⟨0,v,_,oc,by omega,rfl,rfl,hO,hGa,rfl,HGET,hE⟩
      case round =>
       clear hO hGa hE
       obtain⟨j,v3,oa3,oc3,hj,rfl,rfl,hO,hGa,hV,hX,hE⟩:=hrel
       obtain⟨hk3,hx3⟩:=List.getElem?_eq_some_iff.1 hX.out
       obtain⟨ob3,oo3,hoa3,c0⟩:=(row_rsl hO.out).1 _ _ (ptrs_at X.pl v3 k hk3)
       subst hoa3
       have c0':wr.cell? ⟨ob3,oo3+k,none⟩=some (.pointer (some ⟨X.pl x.a,0,none⟩)):=by rw[←hx3];exact c0
       have hk3z:(k:Int)<(v3.length:Int):=by omega
       have hMr:=HM.out.ext hE.out
       have hnd:=hMr.node _ HG2.out
       have n1:=hnd.flds
       rw[HE1.out,HSZ.out] at n1
       have HV3:Hid (k<v3.length):=hk3
       clear c0 hx3 hk3
       cases gk with
       | succ r3 =>
        have hlt:j<sz:=by omega
        have hltz:(j:Int)<(sz:Int):=by omega
        obtain⟨d0,d1,d2⟩:=hnd.fld HK8.out j (by rw[HSZ.out];exact hlt)
        have hu:=HW.out.fld _ HG2.out (show rawB (hKind (wat I.V x.a))=false by unfold rawB;exact decide_eq_false (by have:=HK8.out;omega)) j (by rw[HSZ.out];exact hlt)
        have hfl:(fldsW I.V x).length=sz:=by rw[←HSZ.out,HXN.out];simp[fldsW]
        have hsn:=comesI_snoc I.V v (fldsW I.V x) j (by omega)
        have hgd:(fldsW I.V x).getD j 0=wat I.V (x.a+1+j):=by
         have:j<x.n:=by rw[←HXN.out,HSZ.out];exact hlt
         simp[fldsW,List.getD_eq_getElem?_getD,this]
        rw[hgd] at hsn
        have hszw:=hE.out.size
        have f2:IntKind.i64.wrap ((j:Int)+1)=((j+1:Nat):Int):=by rw[IntWalk.i64_in _ (by omega)];omega
        generalize wat I.V (x.a+1+j)=u at *
        have HU:=Lib.hid hu
        have HJ:=Lib.hid hj
        have HSN:=Lib.hid hsn
        clear hMr hnd hu hj hsn hgd hfl hlt
        go_wp2_with (go_at_call 119;refine (meet_any HM.out hE.out HW.out hl HU.out _ oc3 v3 hszw hGa.out hO.out).mono ?_;rintro e w2 ⟨a2,c2',rfl,q1,q2,q3⟩;have Q1:=Lib.hid q1;have Q2:=Lib.hid q2;clear q1 q2 q3)
        go_roundg r3
        case measure=>omega
        case rel =>
         refine⟨j+1,_,a2,c2',by have:=HJ.out;omega,by go_num,rfl,Q1.out,hGa.out.come HW.out hl HU.out,?_,?_,Ext.keep hE.out Q2.out fun i hi=>(World.ownsRow.lt hO.out i hi).1⟩
         ·show _=_
          rw[HSN.out,←hV.out]
         ·obtain⟨t,ht⟩:=comeP_app I.V v3 u
          show _=_
          rw[ht,List.getElem?_append_left HV3.out];exact hX.out
       | zero =>
        obtain rfl:j=sz:=by omega
        have hltz:¬((j:Nat):Int)<((j:Nat):Int):=by omega
        have hV':v3=stepP I.V v x:=by
         have h:=hV.out
         unfold stepP
         rw[HXW.out,if_neg (show ¬rawB (hKind (wat I.V x.a))=true by unfold rawB;simp;exact HK8.out),h,List.take_of_length_le (by rw[←HSZ.out,HXN.out];simp[fldsW])]
        have HV2:=Lib.hid hV'
        clear hV hV' hMr hnd hj
        go_wp2
        go_roundg r
        case measure=>omega
        case rel =>
         refine⟨k+1,v3,_,oc3,by have:=HK.out;omega,by have:=HV3.out;omega,by go_num,rfl,hO,hGa,?_,hE⟩
         show reachG I.V (I.V.length-(k+1)) (k+1) v3=reachI I
         rw[show I.V.length-(k+1)=f by have:=HF.out;omega,HV2.out]
         exact HST.out
    ·have hltz:¬(k:Int)<(v.length:Int):=by omega
     have hV':v=reachI I:=by have:=hV.out;rw[reachG_end _ _ _ _ (by omega)] at this;exact this
     have HV:=Lib.hid hV'
     clear hV hV' hlt hMr hk
     go_wp2
     go_ret
     unfold ReachPost
     rw[←HV.out]
     exact⟨oa,oc,rfl,hO.out,hE.out⟩
end Go.Proofs.YtelhoppfidibiaaGreatDoor
namespace Go.Proofs.YtelhoppfidibiaaGreatDoor
open Go.RowKit
def set3 (w:World) (b o:Nat) (k n:Int) (p:Option Addr):World:=((w.setCell ⟨b,o,none⟩ (.int .i64 k)).setCell ⟨b,o+1,none⟩ (.int .i64 n)).setCell ⟨b,o+2,none⟩ (.pointer p)
section
variable {w w':World} {b o B:Nat} {pl:Nat→Nat} {u nx sr k n:Int} {p:Option Addr} {V W:List Int} {X X':MPl} {a:Nat} {I:Ideal}
theorem keep_one (w:World) (b o:Nat) (x:Value):Keep (·=b) w (w.setCell ⟨b,o,none⟩ x):=Keep.of_but (but_set w ⟨b,o,none⟩ x)
theorem set3_keep:Keep (·=b) w (set3 w b o k n p):=by
 unfold set3
 exact ((keep_one _ b _ _).trans (keep_one _ b _ _)).trans (keep_one _ b _ _)
theorem set3_blk (h:∃ cur t,w.heap[b]?=some (.cells cur t (0,0))):∃ cur t,(set3 w b o k n p).heap[b]?=some (.cells cur t (0,0)):=blk_set (blk_set (blk_set h))
theorem set3_here (h:CellAt w b o pl u) {v:Int} {q:Nat→Nat} (hk:cellK v=k) (hn:cellN v=n) (hp:cellP q v=p):CellAt (set3 w b o k n p) b o q v:=by
 subst hk hn hp
 unfold set3
 refine⟨?_,?_,?_⟩
 ·rw[cell_set_off (by omega),cell_set_off (by omega),cell_set_same h.k]
 ·rw[cell_set_off (by omega),cell_set_same (x:=.int .i64 (cellN u)) (by rw[cell_set_off (by omega)];exact h.n)]
 ·rw[cell_set_same (x:=.pointer (cellP pl u)) (by rw[cell_set_off (by omega),cell_set_off (by omega)];exact h.p)]
theorem set3_off (h:CellAt w b o pl u) {o':Nat} (ho:o+2<o'∨o'+2<o):CellAt (set3 w b o' k n p) b o pl u:=by
 unfold set3
 refine⟨?_,?_,?_⟩
 ·rw[cell_set_off (by omega),cell_set_off (by omega),cell_set_off (by omega)];exact h.k
 ·rw[cell_set_off (by omega),cell_set_off (by omega),cell_set_off (by omega)];exact h.n
 ·rw[cell_set_off (by omega),cell_set_off (by omega),cell_set_off (by omega)];exact h.p
theorem RMod.apart (h:RMod w B I nx X):X.mb≠X.G∧(∀ g,X.wv.ownBlock=some g→g≠X.mb∧g≠X.G)∧(∀ a∈I.P,X.pl a≠X.mb∧X.pl a≠X.G∧(∀ g,X.wv.ownBlock=some g→X.pl a≠g)) ∧
  (∀ a∈I.P,8≤hKind (wat I.V a)→X.fl a≠X.mb∧X.fl a≠X.G∧(∀ g,X.wv.ownBlock=some g→X.fl a≠g))∧(∀ a∈I.P,∀ c∈I.P,8≤hKind (wat I.V c)→X.pl a≠X.fl c)∧(∀ a∈I.P,∀ c∈I.P,8≤hKind (wat I.V a)→8≤hKind (wat I.V c)→X.fl a=X.fl c→a=c):=by
 obtain⟨R,t⟩:=h.tags
 have tm:=t.m
 have tg:=t.g
 refine⟨fun e=>?_,fun g hg=>⟨fun e=>?_,fun e=>?_⟩,fun a ha=>⟨fun e=>?_,fun e=>?_,fun g hg e=>?_⟩,fun a ha h8=>⟨fun e=>?_,fun e=>?_,fun g hg e=>?_⟩,fun a ha c hc h8 e=>?_,fun a ha c hc h8 h9 e=>?_⟩
 ·rw[e] at tm;omega
 ·have:=t.w g hg;rw[e] at this;omega
 ·have:=t.w g hg;rw[e] at this;omega
 ·have:=t.p a ha;rw[e] at this;omega
 ·have:=t.p a ha;rw[e] at this;omega
 ·have h1:=t.p a ha;have:=t.w g hg;rw[e] at h1;omega
 ·have:=t.f a ha h8;rw[e] at this;omega
 ·have:=t.f a ha h8;rw[e] at this;omega
 ·have h1:=t.f a ha h8;have:=t.w g hg;rw[e] at h1;omega
 ·have h1:=t.p a ha;have:=t.f c hc h8;rw[e] at h1;omega
 ·have h1:=t.f a ha h8;have:=t.f c hc h9;rw[e] at h1;omega
theorem gD_ne {α:Type} {l:List α} {r s:Nat} {x d:α} (h:r≠s):(l.set r x).getD s d=l.getD s d:=by
 rw[List.getD_eq_getElem?_getD,List.getD_eq_getElem?_getD,List.getElem?_set_ne h]
theorem gD_same {α:Type} {l:List α} {r:Nat} {x d:α} (h:r<l.length):(l.set r x).getD r d=x:=by
 rw[List.getD_eq_getElem?_getD,List.getElem?_set_self h];rfl
theorem RMod.setR (h:RMod w B I nx X) {r:Nat} (hr:r<I.roots.length) {v:Int} (hk:cellK v=k) (hn:cellN v=n) (hp:cellP X.pl v=p):RMod (set3 w X.G (r*3) k n p) B (I.setR r v) nx X∧Keep (ML I X) w (set3 w X.G (r*3) k n p):=by
 obtain⟨a1,a2,a3,a4,a5,a6⟩:=h.apart
 have hkp:=set3_keep (w:=w) (b:=X.G) (o:=r*3) (k:=k) (n:=n) (p:=p)
 refine⟨⟨keep_blk hkp a1 h.mblk,?_,hkp.cell (p:=⟨X.mb,1,none⟩) a1 h.weak,hkp.cell (p:=⟨X.mb,2,none⟩) a1 h.next,set3_blk h.gblk,fun i hi=>?_,h.wk.keep hkp (fun g hg=>(a2 g hg).2),fun a ha=>(h.node a ha).keep hkp (a3 a ha).2.1 (fun q=>(a4 a ha q).2.1),h.low,by obtain⟨R,t⟩:=h.tags;exact⟨R,t.m,t.g,t.w,t.p,t.f⟩⟩,hkp.sub fun i e=>Or.inr (Or.inl e)⟩
 ·have:=hkp.cell (p:=⟨X.mb,0,none⟩) a1 h.roots
  rw[this]
  show _=some (Value.slice _ (I.roots.set r v).length (I.roots.set r v).length)
  rw[List.length_set]
 ·have hi':i<I.roots.length:=by have:i<(I.roots.set r v).length:=hi;rwa [List.length_set] at this
  show CellAt _ _ _ _ ((I.roots.set r v).getD i 0)
  by_cases e:r=i
  ·subst e
   rw[gD_same hr]
   exact set3_here (h.root r hr) hk hn hp
  ·rw[gD_ne e]
   exact set3_off (h.root i hi') (by omega)
theorem textOf_same (hro:RawOk V (obW V a)) (h2:hKind (wat V a)=2) (hs:∀ i,i<1+szW V a→wat W (a+i)=wat V (a+i)):textOf W a=textOf V a:=by
 obtain⟨t1,t2,t3⟩:=hro.two h2
 have t1':0≤wat V (a+1):=t1
 have hn:szW V a=1+((wat V (a+1)).toNat+7)/8:=t3
 have e1:wat W (a+1)=wat V (a+1):=hs 1 (by omega)
 unfold textOf
 rw[e1]
 have e2:tailW W a (((wat V (a+1)).toNat+7)/8)=tailW V a (((wat V (a+1)).toNat+7)/8):=by
  unfold tailW
  refine List.map_congr_left fun j hj=>?_
  have hj2:=List.mem_range.1 hj
  have:=hs (2+j) (by omega)
  rw[show a+2+j=a+(2+j) by omega];exact this
 rw[e2]
theorem longOf_same (hro:RawOk V (obW V a)) (h1:hKind (wat V a)=1) (hs:∀ i,i<1+szW V a→wat W (a+i)=wat V (a+i)):longOf W a=longOf V a:=by
 have hn:szW V a=1:=hro.one h1
 unfold longOf
 rw[hs 1 (by omega)]
theorem NodeAt.same (h:NodeAt w V X a sr) (hro:RawOk V (obW V a)) (hs:∀ i,i<1+szW V a→wat W (a+i)=wat V (a+i)) (hpl:X'.pl a=X.pl a) (hfl:8≤hKind (wat V a)→X'.fl a=X.fl a)
  (hc:8≤hKind (wat V a)→∀ j,j<szW V a→cellP X'.pl (wat V (a+1+j))=cellP X.pl (wat V (a+1+j))):NodeAt w W X' a sr:=by
 have e0:wat W a=wat V a:=hs 0 (by omega)
 have es:szW W a=szW V a:=by unfold szW;rw[e0]
 refine⟨by rw[hpl];exact h.blk,by rw[hpl,e0];exact h.kind,?_,?_,?_,by rw[hpl];exact h.ser,fun q=>?_,fun q j hj=>?_⟩
 ·rw[hpl,h.flds]
  unfold fldV
  rw[e0,es]
  by_cases q:hKind (wat V a)<8
  ·rw[if_pos q,if_pos q]
  ·rw[if_neg q,if_neg q,hfl (by omega)]
 ·rw[hpl,h.num,e0]
  by_cases q:hKind (wat V a)=1
  ·rw[if_pos q,if_pos q,longOf_same hro q hs]
  ·rw[if_neg q,if_neg q]
 ·rw[hpl,h.str,e0]
  by_cases q:hKind (wat V a)=2
  ·rw[if_pos q,if_pos q,textOf_same hro q hs]
  ·rw[if_neg q,if_neg q]
 ·rw[e0] at q;rw[hfl q];exact h.fblk q
 ·rw[e0] at q
  rw[es] at hj
  obtain⟨c0,c1,c2⟩:=h.fld q j hj
  rw[hfl q,show a+1+j=a+(1+j) by omega,hs (1+j) (by omega),show a+(1+j)=a+1+j by omega]
  exact⟨c0,c1,by rw[hc q j hj];exact c2⟩
def MPl.new (X:MPl) (a p f:Nat):MPl:={X with pl:=fun c=>if c=a then p else X.pl c,fl:=fun c=>if c=a then f else X.fl c}
theorem cellP_new (hw:IWF I) (hl:I.V.length≤1000000000) (hu:WordOk I.P u) (p f:Nat):cellP (X.new I.V.length p f).pl u=cellP X.pl u:=by
 unfold cellP
 by_cases hp:0≤ptsW u
 ·obtain⟨a,ha⟩:∃ a:Nat,ptsW u=(a:Int):=⟨(ptsW u).toNat,by omega⟩
  have hm:=(WordOk.pts hw hl hu ha).1
  have:=hw.dom a hm
  rw[if_pos hp,if_pos hp,ha,Int.toNat_natCast]
  show some (⟨if a=I.V.length then p else X.pl a,0,none⟩:Addr)=_
  rw[if_neg (by omega)]
 ·rw[if_neg hp,if_neg hp]
theorem serZ_new (hw:IWF I) (hl:I.V.length≤1000000000):serZ I I.V.length=0:=by
 unfold serZ serI
 have e:I.ids.find? (fun x=>ptsW x.1==(I.V.length:Int))=none:=List.find?_eq_none.2 fun x hx=>by
  obtain⟨a,ha,e⟩:=hw.ids x hx
  have:=hw.dom a ha
  have:=(pts_addr (show a≤1000000000 by omega)).1
  rw[e];simp;omega
 rw[e];rfl
abbrev Ideal.wR (I:Ideal) (R:List Int):Ideal:=⟨I.V,I.P,R,I.weak,I.ids⟩
theorem RMod.newR {R:List Int} (h:RMod w B (I.wR R) nx X) (hrt:∀ i,i<R.length→WordOk I.P (R.getD i 0)∨¬0≤ptsW (R.getD i 0)) (hw:IWF I) (hl:I.V.length≤1000000000) (hx:Ext w w') {kind:Int} {us:List Int} {p f:Nat} (hp:w.heap.size≤p) (hB:B≤w.heap.size) (hf:8≤kind→w.heap.size≤f∧f≠p) (hk:0≤kind∧kind≤255) (hz:us.length≤4096)
  (hn:NodeAt w' ((I.wR R).new kind us).V (X.new I.V.length p f) I.V.length 0):RMod w' B ((I.wR R).new kind us) nx (X.new I.V.length p f):=by
 have h0:=h.ext hx
 have hkd:hKind (wat ((I.wR R).new kind us).V I.V.length)=kind:=by
  rw[new_hd]
  exact (headW_hd kind 0 0 (us.length:Int) hk (by omega) (by omega) ⟨by omega,by omega⟩).2.1
 have hP:∀ a∈((I.wR R).new kind us).P,a∈I.P∨a=I.V.length:=fun a ha=>by
  rcases List.mem_append.1 (show a∈I.P++[I.V.length] from ha) with q|q
  ·exact Or.inl q
  ·exact Or.inr (List.mem_singleton.1 q)
 have hlt:∀ a∈I.P,a<I.V.length:=fun a ha=>by have:=hw.dom a ha;omega
 have hw0:∀ a∈I.P,∀ i,i<1+szW I.V a→wat ((I.wR R).new kind us).V (a+i)=wat I.V (a+i):=fun a ha i hi=>new_old (I.wR R) kind us (show a+i<I.V.length by have:=hw.dom a ha;omega)
 have hpl:∀ a∈I.P,(X.new I.V.length p f).pl a=X.pl a:=fun a ha=>if_neg (by have:=hlt a ha;omega)
 have hfl:∀ a∈I.P,(X.new I.V.length p f).fl a=X.fl a:=fun a ha=>if_neg (by have:=hlt a ha;omega)
 have hpn:(X.new I.V.length p f).pl I.V.length=p:=if_pos rfl
 have hfn:(X.new I.V.length p f).fl I.V.length=f:=if_pos rfl
 have hko:∀ a∈I.P,hKind (wat ((I.wR R).new kind us).V a)=hKind (wat I.V a):=fun a ha=>by rw[show wat ((I.wR R).new kind us).V a=wat I.V a from hw0 a ha 0 (by omega)]
 refine⟨h0.mblk,h0.roots,h0.weak,h0.next,h0.gblk,fun i hi=>?_,?_,fun a ha=>?_,⟨h0.low.1,h0.low.2.1,fun a ha=>?_⟩,?_⟩
 ·obtain⟨c0,c1,c2⟩:=h0.root i hi
  refine⟨c0,c1,?_⟩
  have hi':i<R.length:=hi
  rw[show ((I.wR R).new kind us).roots=R from rfl]
  rcases hrt i hi' with q|q
  ·rw[cellP_new hw hl q p f];exact c2
  ·have e:∀ pl,cellP pl (R.getD i 0)=none:=fun pl=>if_neg q
   have c2':w'.cell? _=some (.pointer (cellP X.pl (R.getD i 0))):=c2
   rw[e] at c2' ⊢;exact c2'
 ·have e:wkV (X.new I.V.length p f) ((I.wR R).new kind us)=wkV X I:=by
   unfold wkV
   refine List.map_congr_left fun v hv=>?_
   obtain⟨a,ha,rfl⟩:=hw.weak v hv
   rw[(pts_addr (show a≤1000000000 by have:=hlt a ha;omega)).1,Int.toNat_natCast,hpl a ha]
  rw[e];exact h0.wk
 ·rcases hP a ha with q|rfl
  ·exact (h0.node a q).same (hw.head a q).raw (hw0 a q) (hpl a q) (fun _=>hfl a q) fun h8 j hj=>cellP_new hw hl (hw.fld a q (by have h9:8≤hKind (wat I.V a):=h8;unfold rawB;exact decide_eq_false (by omega)) j hj) p f
  ·rw[show serZ ((I.wR R).new kind us) I.V.length=serZ I I.V.length from rfl,serZ_new hw hl];exact hn
 ·rcases hP a ha with q|rfl
  ·rw[hpl a q,hfl a q,hko a q];exact h0.low.2.2 a q
  ·rw[hpn,hfn,hkd];exact⟨by omega,fun h8=>by have:=(hf h8).1;omega⟩
 ·obtain⟨Rt,t⟩:=h.tags
  have hne:∀ k,ML (I.wR R) X k→k≠p∧(8≤kind→k≠f):=fun k hk2=>by
   have h1:=(h.own hk2).2
   exact⟨by omega,fun h8=>by have:=(hf h8).1;omega⟩
  refine⟨fun k=>if k=p then 2*I.V.length+3 else if 8≤kind∧k=f then 2*I.V.length+4 else Rt k,?_,?_,fun k hk2=>?_,fun a ha=>?_,fun a ha h8=>?_⟩
  ·have:=hne X.mb (Or.inl rfl)
   show (if X.mb=p then _ else _)=0
   rw[if_neg this.1,if_neg (fun q=>this.2 q.1 q.2)];exact t.m
  ·have:=hne X.G (Or.inr (Or.inl rfl))
   show (if X.G=p then _ else _)=1
   rw[if_neg this.1,if_neg (fun q=>this.2 q.1 q.2)];exact t.g
  ·have:=hne k (Or.inr (Or.inr (Or.inl hk2)))
   show (if k=p then _ else _)=2
   rw[if_neg this.1,if_neg (fun q=>this.2 q.1 q.2)];exact t.w k hk2
  ·rcases hP a ha with q|rfl
   ·have:=hne (X.pl a) (Or.inr (Or.inr (Or.inr ⟨a,q,Or.inl rfl⟩)))
    rw[hpl a q]
    show (if X.pl a=p then _ else _)=_
    rw[if_neg this.1,if_neg (fun q=>this.2 q.1 q.2)];exact t.p a q
   ·rw[hpn]
    show (if p=p then _ else _)=_
    rw[if_pos rfl]
  ·rcases hP a ha with q|rfl
   ·rw[hko a q] at h8
    have:=hne (X.fl a) (Or.inr (Or.inr (Or.inr ⟨a,q,Or.inr ⟨h8,rfl⟩⟩)))
    rw[hfl a q]
    show (if X.fl a=p then _ else _)=_
    rw[if_neg this.1,if_neg (fun q=>this.2 q.1 q.2)];exact t.f a q h8
   ·rw[hkd] at h8
    rw[hfn]
    show (if f=p then _ else if 8≤kind∧f=f then _ else _)=_
    rw[if_neg (hf h8).2,if_pos ⟨h8,rfl⟩]
theorem RMod.new (h:RMod w B I nx X) (hw:IWF I) (hl:I.V.length≤1000000000) (hx:Ext w w') {kind:Int} {us:List Int} {p f:Nat} (hp:w.heap.size≤p) (hB:B≤w.heap.size) (hf:8≤kind→w.heap.size≤f∧f≠p) (hk:0≤kind∧kind≤255) (hz:us.length≤4096)
  (hn:NodeAt w' (I.new kind us).V (X.new I.V.length p f) I.V.length 0):RMod w' B (I.new kind us) nx (X.new I.V.length p f) :=
 RMod.newR (R:=I.roots) h (fun i hi=>Or.inl (hw.root hi)) hw hl hx hp hB hf hk hz hn
theorem RMod.put (h:RMod w B I nx X) (hw:IWF I) {a j:Nat} (ha:a∈I.P) (h8:8≤hKind (wat I.V a)) (hj:j<szW I.V a) {v:Int} (hk:cellK v=k) (hn:cellN v=n) (hp:cellP X.pl v=p) :
  RMod (set3 w (X.fl a) (j*3) k n p) B (I.put (a+1+j) v) nx X∧Keep (ML I X) w (set3 w (X.fl a) (j*3) k n p):=by
 obtain⟨a1,a2,a3,a4,a5,a6⟩:=h.apart
 obtain⟨f1,f2,f3⟩:=a4 a ha h8
 have hkp:=set3_keep (w:=w) (b:=X.fl a) (o:=j*3) (k:=k) (n:=n) (p:=p)
 have hd:=hw.dom a ha
 have ne:∀ i,i≠a+1+j→wat (I.put (a+1+j) v).V i=wat I.V i:=fun i hi=>wat_set _ _ _ _ hi
 have hso:∀ c∈I.P,c≠a→∀ i,i<1+szW I.V c→wat (I.put (a+1+j) v).V (c+i)=wat I.V (c+i):=fun c hc q i hi=>ne _ fun e=>by
  rcases Nat.lt_or_gt_of_ne q with q|q
  ·have:=hw.apart c hc a ha q;omega
  ·have:=hw.apart a ha c hc q;omega
 have hw0:∀ c∈I.P,wat (I.put (a+1+j) v).V c=wat I.V c:=fun c hc=>by
  by_cases q:c=a
  ·subst q;exact ne c (by omega)
  ·exact hso c hc q 0 (by omega)
 refine⟨⟨keep_blk hkp (Ne.symm f1) h.mblk,hkp.cell (p:=⟨X.mb,0,none⟩) (Ne.symm f1) h.roots,hkp.cell (p:=⟨X.mb,1,none⟩) (Ne.symm f1) h.weak,hkp.cell (p:=⟨X.mb,2,none⟩) (Ne.symm f1) h.next,keep_blk hkp (Ne.symm f2) h.gblk,fun i hi=>(h.root i hi).keep hkp (Ne.symm f2),h.wk.keep hkp (fun g hg=>Ne.symm (f3 g hg)),fun c hc=>?_,⟨h.low.1,h.low.2.1,fun c hc=>by rw[hw0 c hc];exact h.low.2.2 c hc⟩,?_⟩,hkp.sub fun i e=>Or.inr (Or.inr (Or.inr ⟨a,ha,Or.inr ⟨h8,e⟩⟩))⟩
 ·have hcI:c∈I.P:=hc
  by_cases q:c=a
  ·subst q
   have e0:=hw0 c hcI
   have es:szW (I.put (c+1+j) v).V c=szW I.V c:=by unfold szW;rw[e0]
   have hN:=h.node c hcI
   have np:=a5 c hcI c hcI h8
   refine⟨keep_blk hkp np hN.blk,by rw[e0];exact hkp.cell (p:=⟨X.pl c,0,none⟩) np hN.kind,?_,?_,?_,hkp.cell (p:=⟨X.pl c,4,none⟩) np hN.ser,fun _=>set3_blk (hN.fblk h8),fun _ i hi=>?_⟩
   ·have:=hkp.cell (p:=⟨X.pl c,1,none⟩) np hN.flds
    rw[this];unfold fldV;rw[e0,es]
   ·have:=hkp.cell (p:=⟨X.pl c,2,none⟩) np hN.num
    rw[this,e0,if_neg (by omega),if_neg (by omega)]
   ·have:=hkp.cell (p:=⟨X.pl c,3,none⟩) np hN.str
    rw[this,e0,if_neg (by omega),if_neg (by omega)]
   ·rw[es] at hi
    by_cases e:i=j
    ·subst e
     rw[show wat (I.put (c+1+i) v).V (c+1+i)=v from wat_set_same _ _ _ (by omega)]
     exact set3_here (hN.fld h8 i hi) hk hn hp
    ·rw[ne _ (by omega)]
     exact set3_off (hN.fld h8 i hi) (by omega)
  ·have hN:=(h.node c hcI).keep hkp (a5 c hcI a ha h8) (fun h9 e=>q (a6 c hcI a ha h9 h8 e))
   exact hN.same (hw.head c hcI).raw (hso c hcI q) rfl (fun _=>rfl) fun _ _ _=>rfl
 ·obtain⟨R,t⟩:=h.tags
  exact⟨R,t.m,t.g,t.w,t.p,fun c hc h9=>t.f c hc (by rw[←hw0 c hc];exact h9)⟩
end
end Go.Proofs.YtelhoppfidibiaaGreatDoor
namespace Go.Proofs.YtelhoppfidibiaaGreatDoor
open Go.RowKit
def anyW (n:Int):Int:=if n<2305843009213693952 then 4*n+1 else 4*n+18446744073709551617
theorem anyW_cell (n:Int):cellK (anyW n)=3∧cellN (anyW n)=n∧(∀ pl,cellP pl (anyW n)=none)∧¬0≤ptsW (anyW n):=by
 have h4:anyW n%4=1:=by unfold anyW;split<;>omega
 have hp:¬0≤ptsW (anyW n):=by
  unfold ptsW kindW
  rw[if_neg (by omega)];omega
 refine⟨?_,?_,fun pl=>if_neg hp,hp⟩
 ·unfold cellK;rw[if_neg hp,if_pos h4]
 ·unfold cellN;rw[if_neg hp,if_pos h4]
  unfold numW anyW
  by_cases h:n<2305843009213693952
  ·rw[if_pos h,if_pos (by omega)];omega
  ·rw[if_neg h,if_neg (by omega)];omega
theorem small_cell {n:Int} (h:smallB n=true):cellK (intW n)=3∧cellN (intW n)=n∧(∀ pl,cellP pl (intW n)=none):=by
 have h4:intW n%4=1:=(intW_wd n).2.2
 have hp:¬0≤ptsW (intW n):=by
  unfold ptsW kindW
  rw[if_neg (by omega)];omega
 refine⟨?_,?_,fun pl=>if_neg hp⟩
 ·unfold cellK;rw[if_neg hp,if_pos h4]
 ·unfold cellN;rw[if_neg hp,if_pos h4];exact numW_intW n h
theorem addr_cell {a:Nat} (h:a≤1000000000) (pl:Nat→Nat):cellK (addrW (a:Int))=4∧cellN (addrW (a:Int))=0∧cellP pl (addrW (a:Int))=some ⟨pl a,0,none⟩:=by
 have hp:=(pts_addr h).1
 have h0:0≤ptsW (addrW (a:Int)):=by rw[hp];omega
 refine⟨if_pos h0,if_pos h0,?_⟩
 unfold cellP
 rw[if_pos h0,hp,Int.toNat_natCast]
theorem set3_alloc {w:World} {b o:Nat} {k n:Int} {p:Option Addr} (ob:Obj) (hb:b<w.heap.size):set3 (w.alloc ob) b o k n p=(set3 w b o k n p).alloc ob:=by
 unfold set3
 rw[World.setCell_alloc_past _ _ _ _ hb,World.setCell_alloc_past _ _ _ _ (by simpa [go_sem] using hb),World.setCell_alloc_past _ _ _ _ (by simpa [go_sem] using hb)]
def DoPost (w:World) (B:Nat) (I:Ideal) (X:MPl) (J:Ideal) (ny n:Int) (e:Ending) (w':World):Prop :=
 e=.returned (.int .i64 n)∧∃ X',X'.mb=X.mb∧RMod w' B J ny X'∧Keep (ML I X) w w'∧∀ k,ML J X' k→ML I X k∨w.heap.size≤k
section
variable {w w' wa wb:World} {B:Nat} {nx k n:Int} {p:Option Addr} {X:MPl} {I:Ideal}
theorem do_setR (hM:RMod w B I nx X) (hx:Ext w wa) {r:Nat} (hr:r<I.roots.length) {v:Int} (hk:cellK v=k) (hn:cellN v=n) (hp:cellP X.pl v=p) (hy:Ext (set3 wa X.G (r*3) k n p) w'):DoPost w B I X (I.setR r v) nx 0 (.returned (.int .i64 0)) w':=by
 obtain⟨h1,h2⟩:=(hM.ext hx).setR hr hk hn hp
 exact⟨rfl,X,rfl,h1.ext hy,((Keep.of_ext hx).trans h2).trans (Keep.of_ext hy),fun k q=>Or.inl q⟩
theorem do_newG {R:List Int} {r:Nat} (hM:RMod wa B (I.wR R) nx X) (hkp:Keep (ML I X) w wa) (hrt:∀ i,i<R.length→WordOk I.P (R.getD i 0)∨¬0≤ptsW (R.getD i 0)) (hset:R.set r (addrW (I.V.length:Int))=I.roots.set r (addrW (I.V.length:Int))) (hr:r<R.length)
  (hw:IWF I) (hl:I.V.length≤1000000000) (hx:Ext wa wb) {kind:Int} {us:List Int} {p f:Nat} (hp:wa.heap.size≤p) (hf:8≤kind→wa.heap.size≤f∧f≠p) (hk:0≤kind∧kind≤255) (hz:us.length≤4096)
  (hn:NodeAt wb ((I.wR R).new kind us).V (X.new I.V.length p f) I.V.length 0) (hy:Ext (set3 wb X.G (r*3) 4 0 (some ⟨p,0,none⟩)) w'):DoPost w B I X ((I.new kind us).setR r (addrW (I.V.length:Int))) nx 0 (.returned (.int .i64 0)) w':=by
 have hB:B≤wa.heap.size:=by have:=hM.own (Or.inl rfl);omega
 have h1:=RMod.newR hM hrt hw hl hx hp hB hf hk hz hn
 obtain⟨c1,c2,c3⟩:=addr_cell hl (X.new I.V.length p f).pl
 have hpn:(X.new I.V.length p f).pl I.V.length=p:=if_pos rfl
 rw[hpn] at c3
 obtain⟨h2,h3⟩:=h1.setR (r:=r) hr c1 c2 c3
 have e:((I.wR R).new kind us).setR r (addrW (I.V.length:Int))=(I.new kind us).setR r (addrW (I.V.length:Int)):=by
  show (⟨_,_,R.set r _,_,_⟩:Ideal)=⟨_,_,I.roots.set r _,_,_⟩
  rw[hset];rfl
 rw[e] at h2
 have hG:Keep (ML I X) wb (set3 wb X.G (r*3) 4 0 (some ⟨p,0,none⟩)):=set3_keep.sub fun i q=>Or.inr (Or.inl q)
 refine⟨rfl,X.new I.V.length p f,rfl,h2.ext hy,((hkp.trans (Keep.of_ext hx)).trans hG).trans (Keep.of_ext hy),fun k q=>?_⟩
 have hlt:∀ a∈I.P,a<I.V.length:=fun a ha=>by have:=hw.dom a ha;omega
 have hsz:=hkp.size
 rcases q with q|q|q|⟨a,ha,q⟩
 ·exact Or.inl (Or.inl q)
 ·exact Or.inl (Or.inr (Or.inl q))
 ·exact Or.inl (Or.inr (Or.inr (Or.inl q)))
 ·rcases List.mem_append.1 (show a∈I.P++[I.V.length] from ha) with ha|ha
  ·have g1:(X.new I.V.length p f).pl a=X.pl a:=if_neg (by have:=hlt a ha;omega)
   have g2:(X.new I.V.length p f).fl a=X.fl a:=if_neg (by have:=hlt a ha;omega)
   have g3:wat ((I.new kind us).setR r (addrW (I.V.length:Int))).V a=wat I.V a:=new_old I kind us (hlt a ha)
   rw[g1,g2,g3] at q
   exact Or.inl (Or.inr (Or.inr (Or.inr ⟨a,ha,q⟩)))
  ·obtain rfl:=List.mem_singleton.1 ha
   have g2:(X.new I.V.length p f).fl I.V.length=f:=if_pos rfl
   have g3:hKind (wat ((I.new kind us).setR r (addrW (I.V.length:Int))).V I.V.length)=kind:=by
    rw[show wat ((I.new kind us).setR r (addrW (I.V.length:Int))).V I.V.length=headW kind 0 0 us.length from new_hd I kind us]
    exact (headW_hd kind 0 0 (us.length:Int) hk (by omega) (by omega) ⟨by omega,by omega⟩).2.1
   rw[hpn,g2,g3] at q
   right
   rcases q with q|⟨h8,q⟩
   ·omega
   ·have:=hf h8;omega
theorem do_new (hM:RMod w B I nx X) {r:Nat} (hr:r<I.roots.length) (hw:IWF I) (hl:I.V.length≤1000000000) (hx:Ext w wb) {kind:Int} {us:List Int} {p f:Nat} (hp:w.heap.size≤p) (hf:8≤kind→w.heap.size≤f∧f≠p) (hk:0≤kind∧kind≤255) (hz:us.length≤4096)
  (hn:NodeAt wb (I.new kind us).V (X.new I.V.length p f) I.V.length 0) (hy:Ext (set3 wb X.G (r*3) 4 0 (some ⟨p,0,none⟩)) w'):DoPost w B I X ((I.new kind us).setR r (addrW (I.V.length:Int))) nx 0 (.returned (.int .i64 0)) w' :=
 do_newG (R:=I.roots) hM (Keep.refl _ _) (fun i hi=>Or.inl (hw.root hi)) rfl hr hw hl hx hp hf hk hz hn hy
theorem new_kd (I:Ideal) (kind:Int) (us:List Int) (hk:0≤kind∧kind≤255) (hz:us.length≤4096):hKind (wat (I.new kind us).V I.V.length)=kind∧szW (I.new kind us).V I.V.length=us.length:=by
 obtain⟨d1,d2,d3,d4,d5⟩:=headW_hd kind 0 0 (us.length:Int) hk (by omega) (by omega) ⟨by omega,by omega⟩
 unfold szW
 rw[new_hd]
 exact⟨d2,by rw[d5];omega⟩
theorem put_hd (hw:IWF I) {a j:Nat} {v:Int} (ha:a∈I.P) (hj:j<szW I.V a) {c:Nat} (hc:c∈I.P):wat (I.put (a+1+j) v).V c=wat I.V c:=by
 have ne:c≠a+1+j:=fun e=>by
  have hda:=hw.dom a ha
  rcases Nat.lt_or_ge a c with q|q
  ·have:=hw.apart a ha c hc q;omega
  ·omega
 exact wat_set _ _ _ _ ne
theorem do_putG (hM:RMod w B I nx X) (hw:IWF I) {a j:Nat} (ha:a∈I.P) (h8:8≤hKind (wat I.V a)) (hj:j<szW I.V a) {v:Int} (hk:cellK v=k) (hn:cellN v=n) (hp:cellP X.pl v=p) (hy:Ext (set3 w (X.fl a) (j*3) k n p) w'):DoPost w B I X (I.put (a+1+j) v) nx 0 (.returned (.int .i64 0)) w':=by
 obtain⟨h1,h2⟩:=hM.put hw ha h8 hj hk hn hp
 refine⟨rfl,X,rfl,h1.ext hy,h2.trans (Keep.of_ext hy),fun q hq=>Or.inl ?_⟩
 rcases hq with q1|q1|q1|⟨c,hc,q1⟩
 ·exact Or.inl q1
 ·exact Or.inr (Or.inl q1)
 ·exact Or.inr (Or.inr (Or.inl q1))
 ·refine Or.inr (Or.inr (Or.inr ⟨c,hc,?_⟩))
  rwa [put_hd hw ha hj hc] at q1
theorem node_long {I:Ideal} {p f:Nat} {v:Int} {t:TypeId} (hv:I64 v) (hb:w.heap[p]?=some (.cells #[.int .i64 1,.slice none 0 0,.int .i64 v,.string ⟨#[]⟩,.int .i64 0] t (0,0))):NodeAt w (I.new 1 [IntKind.u64.wrap v]).V (X.new I.V.length p f) I.V.length 0:=by
 obtain⟨k1,k2⟩:=new_kd I 1 [IntKind.u64.wrap v] (by omega) (by simp)
 have hpn:(X.new I.V.length p f).pl I.V.length=p:=if_pos rfl
 have hlong:longOf (I.new 1 [IntKind.u64.wrap v]).V I.V.length=v:=by
  unfold longOf
  rw[show I.V.length+1=I.V.length+1+0 from rfl,new_fld]
  exact u64_i64 v hv
 refine⟨⟨_,_,by rw[hpn];exact hb⟩,?_,?_,?_,?_,?_,fun h=>by rw[k1] at h;omega,fun h=>by rw[k1] at h;omega⟩
 ·rw[hpn,k1,World.cell?,hb];rfl
 ·rw[hpn,World.cell?,hb];unfold fldV;rw[k1];rfl
 ·rw[hpn,k1,hlong,World.cell?,hb];rfl
 ·rw[hpn,k1,World.cell?,hb];rfl
 ·rw[hpn,World.cell?,hb];rfl
theorem node_make {I:Ideal} {p f:Nat} {kind:Int} {m:Nat} {t:TypeId} (hk:8≤kind∧kind≤255) (hm:m≤4096) (hb:w.heap[p]?=some (.cells #[.int .i64 kind,.slice (some ⟨f,0,none⟩) m m,.int .i64 0,.string ⟨#[]⟩,.int .i64 0] t (0,0)))
  (hfb:∃ cur t,w.heap[f]?=some (.cells cur t (0,0))) (hc:∀ j,j<m→w.cell? ⟨f,j*3,none⟩=some (.int .i64 0)∧w.cell? ⟨f,j*3+1,none⟩=some (.int .i64 0)∧w.cell? ⟨f,j*3+2,none⟩=some (.pointer none)):NodeAt w (I.new kind (List.replicate m 2)).V (X.new I.V.length p f) I.V.length 0:=by
 obtain⟨k1,k2⟩:=new_kd I kind (List.replicate m 2) (by omega) (by simp;omega)
 rw[List.length_replicate] at k2
 have hpn:(X.new I.V.length p f).pl I.V.length=p:=if_pos rfl
 have hfn:(X.new I.V.length p f).fl I.V.length=f:=if_pos rfl
 refine⟨⟨_,_,by rw[hpn];exact hb⟩,?_,?_,?_,?_,?_,fun h=>by rw[hfn];exact hfb,fun h j hj=>?_⟩
 ·rw[hpn,k1,World.cell?,hb];rfl
 ·rw[hpn,World.cell?,hb];unfold fldV;rw[k1,if_neg (by omega),hfn,k2];rfl
 ·rw[hpn,k1,if_neg (by omega),World.cell?,hb];rfl
 ·rw[hpn,k1,if_neg (by omega),World.cell?,hb];rfl
 ·rw[hpn,World.cell?,hb];rfl
 ·rw[k2] at hj
  rw[hfn,new_fld,List.getD_eq_getElem?_getD,List.getElem?_replicate,if_pos hj]
  obtain⟨q1,q2,q3⟩:=hc j hj
  exact⟨q1,q2,q3⟩
end
end Go.Proofs.YtelhoppfidibiaaGreatDoor
