/- A memory of the call's own: its cells and rows, of which none lies over another; what a step does to it. -/
import Derived.Test.YtelhoppfidibiaaGreatDoorJTa04
import Derived.Test.YtelhoppfidibiaaGreatDoorJTa03
import Derived.Laws.CopyOwn
import Derived.Test.YtelhoppfidibiaaGreatDoorJTa06
import Derived.Handy
set_option linter.unusedSimpArgs false
set_option linter.unusedVariables false
set_option maxHeartbeats 4000000
set_option maxRecDepth 100000
namespace Go.Proofs.YtelhoppfidibiaaGreatDoor
open Go.RowKit
structure Fld where
 off:Nat
 e:TypeId
 size:Nat
 a:Option Addr
 n:Nat
 c:Nat
 cs:List Value
def Fld.val (f:Fld):Value:=.slice f.a f.n f.c
structure OM (w:World) (B b:Nat) (nums:List (Nat × Int)) (L:List Fld):Prop where
 hb:B≤b
 blk:∃ cur t,w.heap[b]?=some (.cells cur t (0,0))
 num:∀ p∈nums,w.cell? ⟨b,p.1,none⟩=some (.int .i64 p.2)
 fld:∀ f∈L,w.cell? ⟨b,f.off,none⟩=some f.val∧w.ownsRow B f.e f.size f.val f.n f.cs∧f.val.ownBlock≠some b
 apart:L.Pairwise fun f g=>∀ k,f.val.ownBlock=some k→g.val.ownBlock≠some k
 offs:(nums.map (·.1)++L.map (·.off)).Nodup
theorem OM.lt {w:World} {B b:Nat} {nums:List (Nat × Int)} {L:List Fld} (h:OM w B b nums L):b<w.heap.size:=by
 obtain⟨cur,t,hc⟩:=h.blk
 rcases Nat.lt_or_ge b w.heap.size with g|g
 ·exact g
 ·simp[Array.getElem?_eq_none g] at hc
theorem OM.frozen {w:World} {B b:Nat} {nums:List (Nat × Int)} {L:List Fld} (h:OM w B b nums L) (j:Nat):w.frozen? ⟨b,j,none⟩=false:=by
 obtain⟨cur,t,hc⟩:=h.blk
 simp[World.frozen?,hc]
theorem OM.kept {w w':World} {B b:Nat} {nums:List (Nat × Int)} {L:List Fld} (h:OM w B b nums L) (hk:∀ k,k<w.heap.size→(k=b∨∃ f∈L,f.val.ownBlock=some k)→w'.heap[k]?=w.heap[k]?):OM w' B b nums L:=by
 have hbk:w'.heap[b]?=w.heap[b]?:=hk b h.lt (Or.inl rfl)
 refine⟨h.hb,?_,fun p hp=>?_,fun f hf=>⟨?_,?_,(h.fld f hf).2.2⟩,h.apart,h.offs⟩
 ·rw[hbk];exact h.blk
 ·rw[World.cell?_of_block (w:=w) (a:=⟨b,p.1,none⟩) hbk];exact h.num p hp
 ·rw[World.cell?_of_block (w:=w) (a:=⟨b,f.off,none⟩) hbk];exact (h.fld f hf).1
 ·obtain⟨h1,h2⟩:=(h.fld f hf).2.1
  refine⟨h1,?_⟩
  rcases h2 with h2|⟨g,cap,cur,hv,hg,hh,r⟩
  ·exact Or.inl h2
  ·refine Or.inr ⟨g,cap,cur,hv,hg,?_,r⟩
   rw[hk g (((h.fld f hf).2.1.lt g (by rw[hv];rfl)).2) (Or.inr ⟨f,hf,by rw[hv];rfl⟩)]
   exact hh
theorem OM.ext {w w':World} {B b:Nat} {nums:List (Nat × Int)} {L:List Fld} (h:OM w B b nums L) (hx:Ext w w'):OM w' B b nums L:=h.kept fun k hk _=>hx.block k hk
theorem own_set {w:World} {B:Nat} {e:TypeId} {size:Nat} {v:Value} {n:Nat} {xs:List Value} (h:w.ownsRow B e size v n xs) {p:Addr} (hp:v.ownBlock≠some p.block) (u:Value):(w.setCell p u).ownsRow B e size v n xs:=by
 obtain⟨h1,h2⟩:=h
 refine⟨h1,?_⟩
 rcases h2 with h2|⟨g,cap,cur,hv,hg,hh,r⟩
 ·exact Or.inl h2
 ·refine Or.inr ⟨g,cap,cur,hv,hg,?_,r⟩
  rw[Below.heap_setCell _ _ _ _ (fun e=>hp (by rw[hv];exact congrArg some e))]
  exact hh
theorem cell_set_same {w:World} {b o:Nat} {x u:Value} (hc:w.cell? ⟨b,o,none⟩=some x):(w.setCell ⟨b,o,none⟩ u).cell? ⟨b,o,none⟩=some u:=by
 simp[hc,go_sem]
theorem cell_set_off {w:World} {b o o':Nat} {u:Value} (h:o≠o'):(w.setCell ⟨b,o,none⟩ u).cell? ⟨b,o',none⟩=w.cell? ⟨b,o',none⟩ :=
 World.cell?_setCell_other w _ _ u (fun e=>h (by injection e))
theorem blk_set {w:World} {b o:Nat} {u:Value} (h:∃ cur t,w.heap[b]?=some (.cells cur t (0,0))):∃ cur t,(w.setCell ⟨b,o,none⟩ u).heap[b]?=some (.cells cur t (0,0)):=by
 obtain⟨cur,t,hc⟩:=h
 simp only[World.setCell,Array.getElem?_modify]
 simp[hc]
theorem icells_at (l:List (Int × Int)) (i:Nat) (h:i<l.length):(icells l)[i*2]?=some (.int .u64 l[i].1)∧(icells l)[i*2+1]?=some (.int .i64 l[i].2):=by
 induction l generalizing i with
 | nil=>simp at h
 | cons y l ih =>
  cases i with
  | zero=>simp[icells]
  | succ i =>
   have:=ih i (by simpa using h)
   have e1:(i+1)*2=i*2+2:=by omega
   rw[e1]
   simpa [icells] using this
def memNums (M:Mem):List (Nat × Int):=[(0,M.half),(1,M.old),(2,M.card),(4,M.used),(5,M.top),(6,M.oldTop)]
def memFlds (tI:TypeId) (M:Mem) (S:Sls):List Fld :=
 [⟨3,78,1,S.W.1,M.W.length,S.W.2,wcells M.W⟩,⟨7,78,1,S.R.1,M.roots.length,S.R.2,wcells M.roots⟩,⟨8,78,1,S.K.1,M.weak.length,S.K.2,wcells M.weak⟩,
  ⟨9,tI,2,S.I.1,M.ids.length,S.I.2,icells M.ids⟩,⟨10,4,1,S.C.1,M.cards.length,S.C.2,bcells M.cards⟩]
def OMem (w:World) (B b:Nat) (tI:TypeId) (M:Mem) (S:Sls):Prop:=OM w B b (memNums M) (memFlds tI M S)
theorem row_rsl {w:World} {B:Nat} {e:TypeId} {size:Nat} {a:Option Addr} {n c:Nat} {xs:List Value} (h:w.ownsRow B e size (.slice a n c) n xs):RSl w a xs∧n≤c∧(a=none→c=0):=by
 rcases h.2 with⟨h1,h2⟩|⟨g,cap,cur,h1,_,hg,hc,_,_,ht⟩
 ·injection h1 with h1 _ h3
  subst h1 h3 h2
  have:xs=[]:=List.eq_nil_of_length_eq_zero (by simpa using h.1)
  subst this
  exact⟨RSl.nil _ _,Nat.le_refl _,fun _=>rfl⟩
 ·injection h1 with h1 _ h3
  subst h1 h3
  refine⟨fun j u hu=>⟨g,0,rfl,?_⟩,hc,fun e=>by cases e⟩
  rw[Nat.zero_add,cell_of_row w g j cur _ _ hg]
  rw[←ht,List.getElem?_take] at hu
  split at hu
  ·simpa using hu
  ·cases hu
theorem OMem.mem {w:World} {B b:Nat} {tI:TypeId} {M:Mem} {S:Sls} (h:OMem w B b tI M S) (hok:M.Ok):RMem w b 0 M S:=by
 have hn:=h.num
 have hf:=h.fld
 have q3:=hf _ (List.mem_of_getElem? (l:=memFlds tI M S) (i:=0) rfl)
 have q7:=hf _ (List.mem_of_getElem? (l:=memFlds tI M S) (i:=1) rfl)
 have q8:=hf _ (List.mem_of_getElem? (l:=memFlds tI M S) (i:=2) rfl)
 have q9:=hf _ (List.mem_of_getElem? (l:=memFlds tI M S) (i:=3) rfl)
 have q10:=hf _ (List.mem_of_getElem? (l:=memFlds tI M S) (i:=4) rfl)
 obtain⟨r3,c3,n3⟩:=row_rsl q3.2.1
 obtain⟨r7,c7,n7⟩:=row_rsl q7.2.1
 obtain⟨r8,c8,n8⟩:=row_rsl q8.2.1
 obtain⟨r9,c9,n9⟩:=row_rsl q9.2.1
 obtain⟨r10,c10,n10⟩:=row_rsl q10.2.1
 have e:∀ j:Nat,(⟨b,0+j,none⟩:Addr)=⟨b,j,none⟩:=fun j=>by rw[Nat.zero_add]
 refine⟨?_,?_,?_,?_,?_,?_,?_,?_,?_,?_,?_,r3,r7,r8,r9,r10,c3,c7,c8,c9,c10,n3,n7,n8,n9,n10,hok⟩
 ·exact hn _ (List.mem_of_getElem? (l:=memNums M) (i:=0) rfl)
 ·rw[e];exact hn _ (List.mem_of_getElem? (l:=memNums M) (i:=1) rfl)
 ·rw[e];exact hn _ (List.mem_of_getElem? (l:=memNums M) (i:=2) rfl)
 ·rw[e];exact q3.1
 ·rw[e];exact hn _ (List.mem_of_getElem? (l:=memNums M) (i:=3) rfl)
 ·rw[e];exact hn _ (List.mem_of_getElem? (l:=memNums M) (i:=4) rfl)
 ·rw[e];exact hn _ (List.mem_of_getElem? (l:=memNums M) (i:=5) rfl)
 ·rw[e];exact q7.1
 ·rw[e];exact q8.1
 ·rw[e];exact q9.1
 ·rw[e];exact q10.1
structure Few (M:Mem):Prop where
 W:M.W.length≤1000000
 R:M.roots.length≤1000000
 K:M.weak.length≤1000000
 I:M.ids.length≤1000000
 C:M.cards.length≤1000000
theorem wcells_one (l:List Int):∀ u∈wcells l,u.oneCell'=true:=fun u hu=>by obtain⟨x,_,rfl⟩:=List.mem_map.1 hu;rfl
theorem bcells_one (l:List Bool):∀ u∈bcells l,u.oneCell'=true:=fun u hu=>by obtain⟨x,_,rfl⟩:=List.mem_map.1 hu;rfl
theorem wcells_len (l:List Int):(wcells l).length=l.length*1:=by simp[wcells]
theorem bcells_len (l:List Bool):(bcells l).length=l.length*1:=by simp[bcells]
theorem named_world' {P:Program} {c:Code} {Q:Exit→Act→World→Prop} {a:Act} {W:World} (h:∀ W9,W9=W→Code.wp P c Q a W9):Code.wp P c Q a W:=h W rfl
theorem OM.setNum {w:World} {B b:Nat} {n1 n2:List (Nat × Int)} {off:Nat} {v:Int} {L:List Fld} (h:OM w B b (n1++(off,v)::n2) L) (v':Int) :
  OM (w.setCell ⟨b,off,none⟩ (.int .i64 v')) B b (n1++(off,v')::n2) L:=by
 have hoffs:=h.offs
 have hf:∀ f∈L,off≠f.off:=fun f hf e=>by
  rw[List.nodup_append] at hoffs
  exact hoffs.2.2 off (List.mem_map_of_mem (f:=(·.1)) (a:=(off,v)) (by simp)) f.off (List.mem_map_of_mem hf) e
 have hn:∀ p∈n1++n2,off≠p.1:=fun p hp e=>by
  have h1:=(List.nodup_append.1 hoffs).1
  simp only[List.map_append,List.map_cons] at h1
  rw[List.nodup_append,List.nodup_cons] at h1
  rcases List.mem_append.1 hp with q|q
  ·exact h1.2.2 p.1 (List.mem_map_of_mem q) off (by simp) e.symm
  ·exact h1.2.1.1 (by rw[e];exact List.mem_map_of_mem q)
 refine⟨h.hb,blk_set h.blk,fun p hp=>?_,fun f hfm=>⟨?_,own_set (h.fld f hfm).2.1 (h.fld f hfm).2.2 _,(h.fld f hfm).2.2⟩,h.apart,by simpa using hoffs⟩
 ·rcases List.mem_append.1 hp with q|q
  ·rw[cell_set_off (hn p (List.mem_append_left _ q))];exact h.num p (List.mem_append_left _ q)
  ·rcases List.mem_cons.1 q with rfl|q
   ·exact cell_set_same (h.num (off,v) (by simp))
   ·rw[cell_set_off (hn p (List.mem_append_right _ q))];exact h.num p (by simp[q])
 ·rw[cell_set_off (hf f hfm)];exact (h.fld f hfm).1
theorem own_but {w w':World} {B:Nat} {e:TypeId} {size:Nat} {v:Value} {n:Nat} {xs:List Value} (h:w.ownsRow B e size v n xs) {g:Nat} (hg:v.ownBlock≠some g) (hb:But g w w'):w'.ownsRow B e size v n xs:=by
 obtain⟨h1,h2⟩:=h
 refine⟨h1,?_⟩
 rcases h2 with h2|⟨k,cap,cur,hv,hk,hh,r⟩
 ·exact Or.inl h2
 ·refine Or.inr ⟨k,cap,cur,hv,hk,?_,r⟩
  rw[hb.block k (fun e=>hg (by rw[hv,←e];rfl))]
  exact hh
theorem OM.row {w w':World} {B b:Nat} {nums:List (Nat × Int)} {L1 L2:List Fld} {f:Fld} (h:OM w B b nums (L1++f::L2)) {g:Nat} (hg:f.val.ownBlock=some g) (hb:But g w w') {cs':List Value} (ho:w'.ownsRow B f.e f.size f.val f.n cs') :
  OM w' B b nums (L1++⟨f.off,f.e,f.size,f.a,f.n,f.c,cs'⟩::L2):=by
 have hap:=h.apart
 have hother:∀ k∈L1++L2,k.val.ownBlock≠some g:=fun k hk e=>by
  rw[List.pairwise_append,List.pairwise_cons] at hap
  rcases List.mem_append.1 hk with q|q
  ·exact hap.2.2 k q f (by simp) g e hg
  ·exact hap.2.1.1 k q g hg e
 have hgb:g≠b:=fun e=>(h.fld f (by simp)).2.2 (by rw[hg,e])
 have hbk:w'.heap[b]?=w.heap[b]?:=hb.block b (Ne.symm hgb)
 have hcell:∀ j v,w.cell? ⟨b,j,none⟩=some v→w'.cell? ⟨b,j,none⟩=some v:=fun j v hc=>by
  rw[World.cell?_of_block (w:=w) (a:=⟨b,j,none⟩) hbk];exact hc
 have hgood:∀ k∈L1++L2,w'.cell? ⟨b,k.off,none⟩=some k.val∧w'.ownsRow B k.e k.size k.val k.n k.cs∧k.val.ownBlock≠some b:=fun k hk=>by
  have h1:k∈L1++f::L2:=by rcases List.mem_append.1 hk with q|q<;>simp[q]
  exact⟨hcell _ _ (h.fld k h1).1,own_but (h.fld k h1).2.1 (hother k hk) hb,(h.fld k h1).2.2⟩
 refine⟨h.hb,by rw[hbk];exact h.blk,fun p hp=>hcell _ _ (h.num p hp),fun k hk=>?_,?_,by simpa using h.offs⟩
 ·rcases List.mem_append.1 hk with q|q
  ·exact hgood k (List.mem_append_left _ q)
  ·rcases List.mem_cons.1 q with rfl|q
   ·exact⟨hcell _ _ (h.fld f (by simp)).1,ho,(h.fld f (by simp)).2.2⟩
   ·exact hgood k (List.mem_append_right _ q)
 ·rw[List.pairwise_append,List.pairwise_cons] at hap ⊢
  obtain⟨p1,⟨p2,p3⟩,p4⟩:=hap
  refine⟨p1,⟨p2,p3⟩,fun k hk k' hk'=>?_⟩
  rcases List.mem_cons.1 hk' with rfl|hk'
  ·exact p4 k hk f (by simp)
  ·exact p4 k hk k' (by simp[hk'])
theorem Keep.sub {L L':Nat→Prop} {w w':World} (h:Keep L w w') (hl:∀ k,L k→L' k):Keep L' w w':=⟨h.os,h.tape,h.output,h.size,fun k hk hn=>h.block k hk fun e=>hn (hl k e)⟩
theorem but_set (w:World) (p:Addr) (u:Value):But p.block w (w.setCell p u) :=
 ⟨rfl,rfl,rfl,by simp[World.setCell],fun k hk=>heap_setCell_other w p k u hk⟩
theorem own_setAt {w:World} {B:Nat} {e:TypeId} {v:Value} {n:Nat} {xs:List Value} (h:w.ownsRow B e 1 v n xs) {g:Nat} (hg:v.ownBlock=some g) (j:Nat) (hj:j<n) (u:Value) :
  (w.setCell ⟨g,j,none⟩ u).ownsRow B e 1 v n (xs.set j u):=by
 obtain⟨h1,h2⟩:=h
 refine⟨by simpa using h1,?_⟩
 rcases h2 with⟨h2,_⟩|⟨k,cap,cur,hv,hk,hh,q1,q2,q3,q4⟩
 ·rw[h2] at hg;cases hg
 ·obtain rfl:k=g:=by rw[hv] at hg;exact Option.some.inj hg
  refine Or.inr ⟨k,cap,cur.setIfInBounds j u,hv,hk,heap_setCell_same w k j cur e u hh,q1,q2,by simpa using q3,?_⟩
  rw[Array.toList_setIfInBounds,←q4]
  exact List.take_set
theorem own_block {w:World} {B:Nat} {e:TypeId} {size:Nat} {a:Option Addr} {c:Nat} {n:Nat} {xs:List Value} (h:w.ownsRow B e size (.slice a n c) n xs) (hn:0<n) :
  ∃ g,a=some ⟨g,0,none⟩∧B≤g∧g<w.heap.size∧(∀ j,w.frozen? ⟨g,j,none⟩=false)∧n≤c∧∃ cur:List Value,w.heap[g]?=some (.cells cur.toArray e (0,0))∧cur.length=c*size∧cur.take (n*size)=xs:=by
 rcases h.2 with⟨_,h2⟩|⟨g,cap,cur,h1,hg,hh,q1,q2,q3,q4⟩
 ·omega
 ·injection h1 with h1 _ h3
  subst h1 h3
  exact⟨g,rfl,hg,lt_of_block hh,fun j=>by simp[World.frozen?,hh],q1,cur.toList,by simpa using hh,by simpa using q3,q4⟩
theorem run_copy_but {P:Program} {w:World} (dT sT ty:TypeId) (elem:TypeId) (hu:P.underlying dT=some (.slice elem)) (hsz:(P.info? elem).map (·.size)=some 1)
  (dp sp:Option Addr) (dLen dCap sLen sCap:Nat) (g off:Nat) (cur:List Value) (t:TypeId) (hg:w.heap[g]?=some (.cells cur.toArray t (0,0))) (cs:List Value) (hn:cs.length=Nat.min sLen dLen)
  (hpos:0<cs.length→dp=some ⟨g,off,none⟩∧∃ ad,sp=some ad∧∀ j v,cs[j]?=some v→w.cell? (ad.add j)=some v)
  (hfit:off+cs.length≤cur.length) (h1:∀ v∈cs,v.oneCell'=true) :
  ∃ w',(Builtin.copy_ #[dT,sT] ty #[.slice dp dLen dCap,.slice sp sLen sCap]).run P w=.ok (goInt cs.length) w'∧w'.heap[g]?=some (.cells (splice cur off cs).toArray t (0,0))∧But g w w':=by
 by_cases h0:cs.length=0
 ·obtain rfl:cs=[]:=List.eq_nil_of_length_eq_zero h0
  exact⟨w,run_copy_none (P:=P) w dT sT ty elem dp sp dLen dCap sLen sCap hu hsz (by simpa using hn.symm),by simpa [splice] using hg,rfl,rfl,rfl,rfl,fun _ _=>rfl⟩
 ·obtain⟨rfl,ad,rfl,hsrc⟩:=hpos (by omega)
  exact⟨_,run_copy_row (P:=P) w dT sT ty elem g off dLen dCap ad sLen sCap cur.toArray t cs hu hsz hg hn hsrc (by simpa using hfit) h1,by simpa [splice] using setRow_heap w g _ _ t _ hg,rfl,rfl,rfl,by simp[World.setRow],fun k hk=>setRow_other w g k _ hk⟩
theorem own_splice {w w':World} {B:Nat} {e:TypeId} {a:Option Addr} {c n:Nat} {xs:List Value} (h:w.ownsRow B e 1 (.slice a n c) n xs) {g:Nat} (ha:a=some ⟨g,0,none⟩) {cur:List Value} (hg:w.heap[g]?=some (.cells cur.toArray e (0,0)))
  (off:Nat) (cs:List Value) (hf:off+cs.length≤n) (hw:w'.heap[g]?=some (.cells (splice cur off cs).toArray e (0,0))):w'.ownsRow B e 1 (.slice a n c) n (splice xs off cs):=by
 obtain⟨h1,h2⟩:=h
 rcases h2 with⟨h2,_⟩|⟨k,cap,cur',hv,hk,hh,q1,q2,q3,q4⟩
 ·rw[ha] at h2;cases h2
 ·injection hv with hv1 _ hv3
  rw[ha] at hv1
  injection hv1 with hv1
  injection hv1 with hv1
  subst hv1 hv3
  rw[hg] at hh
  injection hh with hh
  injection hh with hh
  subst hh
  simp only[Nat.mul_one] at q3 q4 h1 ⊢
  have hlen:cur.length=c:=by simpa using q3
  refine⟨?_,Or.inr ⟨g,c,(splice cur off cs).toArray,by rw[ha],hk,hw,q1,q2,?_,?_⟩⟩
  ·rw[length_splice _ _ _ (by omega)];omega
  ·simp[length_splice _ _ _ (show off+cs.length≤cur.length by omega),hlen]
  ·simp only[Nat.mul_one] at *
   subst q4
   simp only[splice]
   rw[List.take_append,List.take_append,List.take_take,List.drop_take,List.length_take]
   rw[Nat.min_eq_right (show off≤n by omega),Nat.min_eq_left (show off≤cur.length by omega),List.take_take,Nat.min_eq_left (show off≤n by omega),List.take_of_length_le (show cs.length≤n-off by omega)]
   congr 3
   omega
theorem wcells_set (l:List Int) (j:Nat) (x:Int):wcells (l.set j x)=(wcells l).set j (.int .u64 x):=by simp[wcells,List.map_set]
theorem bcells_set (l:List Bool) (j:Nat) (x:Bool):bcells (l.set j x)=(bcells l).set j (.bool x):=by simp[bcells,List.map_set]
section
variable {w w':World} {B b:Nat} {tI:TypeId} {M:Mem} {S:Sls}
def OwnL (b:Nat) (S:Sls) (k:Nat):Prop:=k=b∨S.W.1=some ⟨k,0,none⟩∨S.C.1=some ⟨k,0,none⟩
theorem OMem.fW (h:OMem w B b tI M S):w.ownsRow B 78 1 (.slice S.W.1 M.W.length S.W.2) M.W.length (wcells M.W):=(h.fld ⟨3,78,1,S.W.1,M.W.length,S.W.2,wcells M.W⟩ (by simp[memFlds])).2.1
theorem OMem.fC (h:OMem w B b tI M S):w.ownsRow B 4 1 (.slice S.C.1 M.cards.length S.C.2) M.cards.length (bcells M.cards):=(h.fld ⟨10,4,1,S.C.1,M.cards.length,S.C.2,bcells M.cards⟩ (by simp[memFlds])).2.1
theorem OMem.setTop (h:OMem w B b tI M S) (v:Int):OMem (w.setCell ⟨b,5,none⟩ (.int .i64 v)) B b tI {M with top:=v} S :=
 OM.setNum (n1:=[(0,M.half),(1,M.old),(2,M.card),(4,M.used)]) (n2:=[(6,M.oldTop)]) h v
theorem OMem.rowW (h:OMem w B b tI M S) {g:Nat} (hg:S.W.1=some ⟨g,0,none⟩) (hb:But g w w') (l:List Int) (hl:l.length=M.W.length) (ho:w'.ownsRow B 78 1 (.slice S.W.1 M.W.length S.W.2) M.W.length (wcells l)):OMem w' B b tI {M with W:=l} S:=by
 have:=OM.row (L1:=[]) (f:=⟨3,78,1,S.W.1,M.W.length,S.W.2,wcells M.W⟩) h (g:=g) (by simp[Fld.val,hg,Value.ownBlock]) hb ho
 unfold OMem memFlds
 simp only[hl]
 exact this
theorem OMem.setW (h:OMem w B b tI M S) {g:Nat} (hg:S.W.1=some ⟨g,0,none⟩) (j:Nat) (hj:j<M.W.length) (x:Int):OMem (w.setCell ⟨g,j,none⟩ (.int .u64 x)) B b tI {M with W:=M.W.set j x} S :=
 OMem.rowW h hg (but_set w ⟨g,j,none⟩ _) _ (by simp) (by rw[wcells_set];exact own_setAt h.fW (by simp[hg,Value.ownBlock]) j hj _)
theorem OMem.rowC (h:OMem w B b tI M S) {g:Nat} (hg:S.C.1=some ⟨g,0,none⟩) (hb:But g w w') (l:List Bool) (hl:l.length=M.cards.length) (ho:w'.ownsRow B 4 1 (.slice S.C.1 M.cards.length S.C.2) M.cards.length (bcells l)):OMem w' B b tI {M with cards:=l} S:=by
 have:=OM.row (L1:=(memFlds tI M S).take 4) (L2:=[]) (f:=⟨10,4,1,S.C.1,M.cards.length,S.C.2,bcells M.cards⟩) h (g:=g) (by simp[Fld.val,hg,Value.ownBlock]) hb ho
 unfold OMem memFlds
 simp only[hl]
 exact this
theorem OMem.setC (h:OMem w B b tI M S) {g:Nat} (hg:S.C.1=some ⟨g,0,none⟩) (j:Nat) (hj:j<M.cards.length) (x:Bool):OMem (w.setCell ⟨g,j,none⟩ (.bool x)) B b tI {M with cards:=M.cards.set j x} S :=
 OMem.rowC h hg (but_set w ⟨g,j,none⟩ _) _ (by simp) (by rw[bcells_set];exact own_setAt h.fC (by simp[hg,Value.ownBlock]) j hj _)
end
def cardI (M:Mem) (a:Int):Nat:=((a-2*M.half)/M.card).toNat
def touchM (M:Mem) (a:Int):Mem:={M with cards:=M.cards.set (cardI M a) true}
def setM (M:Mem) (j:Nat) (v:Int):Mem:={M with W:=M.W.set j v}
def storeM (M:Mem) (j:Nat) (v:Int):Mem:=if oldB M (j:Int)&&youngB M v then touchM (setM M j v) (j:Int) else setM M j v
theorem setM_ok {M:Mem} (h:M.Ok) (j:Nat) (v:Int) (h0:0≤v) (h1:v≤18446744073709551615):(setM M j v).Ok :=
 ⟨h.half,h.old,h.card,h.used,h.top,h.oldTop,fun x hx=>by
  rcases List.mem_or_eq_of_mem_set hx with q|q
  ·exact h.W x q
  ·subst q;exact⟨h0,h1⟩,h.roots,h.weak,h.ids,by unfold setM;simp only[List.length_set];exact h.lenW,h.lenR,h.lenK,h.lenI,h.lenC⟩
theorem touchM_ok {M:Mem} (h:M.Ok) (a:Int):(touchM M a).Ok :=
 ⟨h.half,h.old,h.card,h.used,h.top,h.oldTop,h.W,h.roots,h.weak,h.ids,h.lenW,h.lenR,h.lenK,h.lenI,by unfold touchM;simp only[List.length_set];exact h.lenC⟩
theorem storeM_ok {M:Mem} (h:M.Ok) (j:Nat) (v:Int) (h0:0≤v) (h1:v≤18446744073709551615):(storeM M j v).Ok:=by
 unfold storeM;split
 ·exact touchM_ok (setM_ok h j v h0 h1) _
 ·exact setM_ok h j v h0 h1
theorem setM_shp {M:Mem} (h:Shp M) (j:Nat) (v:Int):Shp (setM M j v) :=
 ⟨h.h1,h.h2,h.o1,h.o2,h.c1,h.c2,by unfold setM;simp only[List.length_set];exact h.w,h.u1,h.u2,h.t1,h.t2,h.p1,h.p2,h.cl⟩
theorem OMem.notW {w:World} {B b:Nat} {tI:TypeId} {M:Mem} {S:Sls} (h:OMem w B b tI M S) {g:Nat} (hg:S.W.1=some ⟨g,0,none⟩):g≠b:=fun e =>
 (h.fld ⟨3,78,1,S.W.1,M.W.length,S.W.2,wcells M.W⟩ (by simp[memFlds])).2.2 (by simp[Fld.val,hg,Value.ownBlock,e])
theorem OMem.notC {w:World} {B b:Nat} {tI:TypeId} {M:Mem} {S:Sls} (h:OMem w B b tI M S) {g:Nat} (hg:S.C.1=some ⟨g,0,none⟩):g≠b:=fun e =>
 (h.fld ⟨10,4,1,S.C.1,M.cards.length,S.C.2,bcells M.cards⟩ (by simp[memFlds])).2.2 (by simp[Fld.val,hg,Value.ownBlock,e])
def KeptPost (w:World) (B b:Nat) (M:Mem) (S:Sls) (v:Value) (e:Ending) (w':World):Prop:=e=.returned v∧OMem w' B b 140 M S∧Keep (OwnL b S) w w'
theorem touch_obj (B b:Nat) (M:Mem) (S:Sls) (w:World) (hO:OMem w B b 140 M S) (hok:M.Ok) (hs:Shp M) (a:Int) (ha:2*M.half≤a) (hb:a<2*M.half+M.old) :
  Calls Tryz.prog 111 #[.pointer (some ⟨b,0,none⟩),.int .i64 a] w (KeptPost w B b (touchM M a) S (.tuple #[])):=by
 obtain⟨i0,i1⟩:=hs.card a ha hb
 have h1:=hs.h1
 have h2:=hs.h2
 have o2:=hs.o2
 have cc1:=hs.c1
 have cc2:=hs.c2
 have hq:(a-2*M.half).tdiv M.card=(a-2*M.half)/M.card:=Int.tdiv_eq_ediv_of_nonneg (by omega)
 obtain⟨J,hJ⟩:∃ J:Nat,(a-2*M.half)/M.card=(J:Int):=⟨((a-2*M.half)/M.card).toNat,by omega⟩
 have HJ:Hid (cardI M a=J):=by unfold Hid cardI;rw[hJ];rfl
 rw[hJ] at hq i1 i0
 have hJl:J<M.cards.length:=by omega
 obtain⟨g,hg,hgB,hgl,hgf,hgc,-⟩:=own_block hO.fC (by omega)
 have hM:=hO.mem hok
 have c1:=hM.cards
 have c2:=hM.half
 have c3:=hM.card
 simp only[Nat.zero_add] at c1 c2 c3
 rw[hg] at c1
 have hcell:w.cell? ⟨g,J,none⟩=some (.bool (M.cards.getD J false)):=by
  have:=hM.rC
  rw[hg] at this
  simpa using this.at_ (bcells_at M.cards J hJl)
 have hfg:=hgf J
 have hgb:=hO.notC hg
 have e0:IntKind.i64.wrap (2*M.half)=2*M.half:=IntWalk.i64_in _ (by omega)
 have e1:IntKind.i64.wrap (a-2*M.half)=a-2*M.half:=IntWalk.i64_in _ (by omega)
 have hcl:M.cards.length≤9223372036854775807:=hok.lenC
 have e2:IntKind.i64.wrap ((J:Nat):Int)=(J:Int):=IntWalk.i64_in _ (by omega)
 have hne:(M.card==0)=false:=by simp;omega
 have hne2:¬M.card=0:=by omega
 have hjj:(J:Int)<(M.cards.length:Int):=by omega
 have HO:=Lib.hid hO
 have HG:=Lib.hid hg
 have HJL:=Lib.hid hJl
 clear hJ hM hs hO hg hgf hok hJl
 go_enter Tryz.func111,Tryz.ntmps111
 go_region
 go_wp2
 go_returns
 refine⟨rfl,?_,?_⟩
 ·unfold touchM;rw[HJ.out]
  exact OM.ext (OMem.setC HO.out HG.out J HJL.out true) (Ext.refl _).drew_
 ·exact Keep.drew_ (Keep.set_ (L:=OwnL b S) (Keep.refl _ w) (p:=⟨g,J,none⟩) (Or.inl (Or.inr (Or.inr HG.out))) _)
theorem store_obj (B b:Nat) (M:Mem) (S:Sls) (w:World) (hO:OMem w B b 140 M S) (hok:M.Ok) (hs:Shp M) (at_:Nat) (hat:at_<M.W.length) (v:Int) (h0:0≤v) (h1:v≤18446744073709551615) :
  Calls Tryz.prog 51 #[.pointer (some ⟨b,0,none⟩),.int .i64 (at_:Int),.int .u64 v] w (KeptPost w B b (storeM M at_ v) S (.tuple #[])):=by
 obtain⟨g,hg,hgB,hgl,hgf,hgc,-⟩:=own_block hO.fW (by omega)
 have hM:=hO.mem hok
 have c3:=hM.W
 simp only[Nat.zero_add] at c3
 rw[hg] at c3
 have hcell:w.cell? ⟨g,at_,none⟩=some (.int .u64 (M.W.getD at_ 0)):=by
  have:=hM.rW
  rw[hg] at this
  simpa using this.at_ (wcells_at M.W at_ hat)
 have hfg:=hgf at_
 have hwl:=hok.lenW
 have hltz:(at_:Int)<(M.W.length:Int):=by omega
 have hsw:=hs.w
 have hO1:OMem (w.setCell ⟨g,at_,none⟩ (.int .u64 v)) B b 140 (setM M at_ v) S:=OMem.setW hO hg at_ hat v
 have hK1:Keep (OwnL b S) w (w.setCell ⟨g,at_,none⟩ (.int .u64 v)):=Keep.set_ (Keep.refl _ w) (p:=⟨g,at_,none⟩) (Or.inl (Or.inr (Or.inl hg))) _
 have hM1:=hO1.mem (setM_ok hok at_ v h0 h1)
 have HS1:=Lib.hid (setM_shp hs at_ v)
 have HOK1:=Lib.hid (setM_ok hok at_ v h0 h1)
 have hin:2*M.half≤(at_:Int)→(at_:Int)<2*M.half+M.old:=fun _=>by omega
 have HIN:=Lib.hid hin
 have HO1:=Lib.hid hO1
 have HK1:=Lib.hid hK1
 have HM1:=Lib.hid hM1
 have hso:storeM M at_ v=if oldB (setM M at_ v) (at_:Int)&&youngB (setM M at_ v) v then touchM (setM M at_ v) (at_:Int) else setM M at_ v:=rfl
 rw[hso]
 have HLW:Hid ((at_:Int)<((setM M at_ v).W.length:Int)):=by unfold Hid setM;simp only[List.length_set];omega
 generalize setM M at_ v=M1 at *
 have HIN1:Hid (oldB M1 (at_:Int)=true→2*M1.half≤(at_:Int)∧(at_:Int)<2*M1.half+M1.old):=fun h=>by
  have q1:=of_decide_eq_true h
  have q2:=HS1.out.w
  exact⟨q1,by have:=HLW.out;omega⟩
 clear hM hO hg hgf hok hs hat hsw hO1 hK1 hM1 hin hso
 cases ho:oldB M1 (at_:Int) with
 | false =>
  have HOB:=Lib.hid ho
  clear ho
  go_enter Tryz.func51,Tryz.ntmps51
  go_wp2_with (go_at_call 101;refine (inOld_any _ _ b 0 M1 S HM1.out HS1.out).mono ?_;rintro e w' ⟨he,rfl⟩;rw[HOB.out] at he;subst he)
  go_returns
  exact⟨rfl,HO1.out,HK1.out⟩
 | true =>
  have HOB:=Lib.hid ho
  clear ho
  cases hy:youngB M1 v with
  | false =>
   have HYB:=Lib.hid hy
   clear hy
   go_enter Tryz.func51,Tryz.ntmps51
   go_wp2_with (first
    | (go_at_call 101;refine (inOld_any _ _ b 0 M1 S HM1.out HS1.out).mono ?_;rintro e w' ⟨he,rfl⟩;rw[HOB.out] at he;subst he)
    | (go_at_call 110;refine (young_any _ h0 h1 _ b 0 M1 S HM1.out HS1.out).mono ?_;rintro e w' ⟨he,rfl⟩;rw[HYB.out] at he;subst he))
   go_returns
   exact⟨rfl,HO1.out,HK1.out⟩
  | true =>
   have HYB:=Lib.hid hy
   clear hy
   obtain⟨k1,k2⟩:=HIN1.out HOB.out
   go_enter Tryz.func51,Tryz.ntmps51
   go_wp2_with (first
    | (go_at_call 101;refine (inOld_any _ _ b 0 M1 S HM1.out HS1.out).mono ?_;rintro e w' ⟨he,rfl⟩;rw[HOB.out] at he;subst he)
    | (go_at_call 110;refine (young_any _ h0 h1 _ b 0 M1 S HM1.out HS1.out).mono ?_;rintro e w' ⟨he,rfl⟩;rw[HYB.out] at he;subst he)
    | (go_at_call 111;refine (touch_obj B b M1 S _ HO1.out HOK1.out HS1.out _ k1 k2).mono ?_;rintro e w2 ⟨rfl,hq1,hq2⟩;have HO2:=Lib.hid hq1;have HK2:=Lib.hid hq2;clear hq1 hq2))
   go_returns
   exact⟨rfl,HO2.out,Keep.trans HK1.out HK2.out⟩
end Go.Proofs.YtelhoppfidibiaaGreatDoor
