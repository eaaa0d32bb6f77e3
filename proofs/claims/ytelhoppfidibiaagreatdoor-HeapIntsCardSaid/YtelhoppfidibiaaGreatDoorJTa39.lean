/- Roots and fields of a memory that holds an ideal one: plainly. -/
import Derived.Test.YtelhoppfidibiaaGreatDoorJTa31
import Derived.Test.YtelhoppfidibiaaGreatDoorJTa38
import Derived.Test.YtelhoppfidibiaaGreatDoorJTa37
import Derived.Test.YtelhoppfidibiaaGreatDoorJTa29
set_option linter.unusedSimpArgs false
set_option linter.unusedVariables false
set_option maxHeartbeats 4000000
set_option maxRecDepth 100000
namespace Go.Proofs.YtelhoppfidibiaaGreatDoor
open Go.RowKit
def Ideal.setR (I:Ideal) (r:Nat) (u:Int):Ideal:={I with roots:=I.roots.set r u}
def Ideal.put (I:Ideal) (i:Nat) (u:Int):Ideal:={I with V:=I.V.set i u}
theorem pts_addr {n:Nat} (h:n≤1000000000):ptsW (addrW (n:Int))=(n:Int)∧kindW (addrW (n:Int))=0∧addrW (n:Int)≠0:=by
 have e:addrW (n:Int)=(n:Int)*4+4:=by unfold addrW;omega
 have k:kindW (addrW (n:Int))=0:=by rw[e];unfold kindW;omega
 refine⟨?_,k,by rw[e];omega⟩
 unfold ptsW
 rw[if_pos ⟨k,by rw[e];omega,by rw[e];omega⟩,e]
 unfold placeW;omega
theorem cor_addr {f:Nat→Nat} {D:Nat→Prop} {a:Nat} (h:D a) (h1:a≤1000000000) (h2:f a≤1000000000):Cor f D (addrW (a:Int)) (addrW (f a:Int)):=by
 obtain⟨a1,a2,a3⟩:=pts_addr h1
 obtain⟨b1,b2,b3⟩:=pts_addr h2
 exact Or.inr ⟨a,a1,h,b1,a2,a3,b2,b3⟩
section
variable {I:Ideal} {M:Mem} {D:Nat→Prop} {f:Nat→Nat} {ten nx:Int}
theorem Rep.setR (h:Rep I M D f) (r:Nat) {u v:Int} (hc:Cor f D u v):Rep (I.setR r u) (rootM M r v) D f:=by
 refine⟨h.morph,h.dom,h.apart,h.obj,by show (I.roots.set r u).length=(M.roots.set r v).length;rw[List.length_set,List.length_set];exact h.lenR,fun i hi=>?_,h.lenK,h.weak,h.ids1,h.ids2,h.wkV,h.idV,h.nodes⟩
 have hi':i<I.roots.length:=by have:i<(I.roots.set r u).length:=hi;rwa [List.length_set] at this
 have hi2:i<M.roots.length:=by rw[←h.lenR];exact hi'
 show Cor f D ((I.roots.set r u).getD i 0) ((M.roots.set r v).getD i 0)
 by_cases e:r=i
 ·subst e
  simp only[List.getD_eq_getElem?_getD,List.getElem?_set_self hi',List.getElem?_set_self hi2,Option.getD_some]
  exact hc
 ·simp only[List.getD_eq_getElem?_getD,List.getElem?_set_ne e]
  have:=h.roots i hi'
  simpa only[List.getD_eq_getElem?_getD] using this
theorem Holds.copy (h:Holds I M) (r:Nat) {s:Nat} (hs:s<I.roots.length):Holds (I.setR r (I.roots.getD s 0)) (rootM M r (M.roots.getD s 0)):=by
 obtain⟨D,f,h⟩:=h
 exact⟨D,f,h.setR r (h.roots s hs)⟩
theorem Holds.plain (h:Holds I M) (r:Nat) {u:Int} (hu:ptsW u<0):Holds (I.setR r u) (rootM M r u):=by
 obtain⟨D,f,h⟩:=h
 exact⟨D,f,h.setR r (Or.inl ⟨hu,rfl⟩)⟩
theorem Rep.small (h:Rep I M D f) (hg:goodB M=true) {a:Nat} (ha:D a):f a≤1000000000:=by
 obtain⟨x,hx,e⟩:=List.mem_map.1 (h.obj a ha)
 have:=(mem_in (good_parts hg).1 hx).1
 have:=len_small (good_parts hg).1
 omega
theorem Holds.make (ht:0≤ten∧ten≤15) (h:Holds I M) (hI:HInv M nx) (kind:Int) (sz:Nat) (hk:0≤kind∧kind≤255) (hz:sz≤4096) (hc:objC M ten sz=0) (r:Nat) (hl:I.V.length≤1000000000) :
  Holds ((I.new kind (List.replicate sz (fillW kind))).setR r (addrW (I.V.length:Int))) (rootM (objM M ten kind sz) r (addrW (objPl M ten sz))):=by
 obtain⟨D,f,hR,e⟩:=h.obj ht hI kind sz hk hz hc
 have hg:=(chk_zero (objM_inv ht hI kind sz hk hz).1.chk).1
 rw[e]
 exact⟨_,f,hR.setR r (cor_addr (Or.inr rfl) hl (hR.small hg (Or.inr rfl)))⟩
structure RootAt (I:Ideal) (r a:Nat) (k:Nat):Prop where
 lt:r<I.roots.length
 pts:ptsW (I.roots.getD r 0)=(a:Int)
 raw:rawB (hKind (wat I.V a))=false
 k:k<szW I.V a
theorem Rep.field (h:Rep I M D f) {r a k s:Nat} (hr:RootAt I r a k) (hs:s<I.roots.length):D a∧fieldC M (r:Int) (k:Int) (s:Int)=0∧fieldP M (r:Int) (k:Int)=f a+1+k:=by
 rcases h.roots r hr.lt with⟨q,-⟩|⟨b,c1,c2,c3,c4,c5,c6,c7⟩
 ·have:=hr.pts;omega
 ·have hp:=hr.pts
  obtain rfl:b=a:=by omega
  have hpl:=(pts_at c3).2.2
  have e1:(placeW (M.roots.getD r 0)).toNat=f b:=by rw[hpl];omega
  refine⟨c2,?_,?_⟩
  ·unfold fieldC
   rw[rootB_true.2 ⟨by omega,by rw[←h.lenR];have:=hr.lt;omega⟩,rootB_true.2 ⟨by omega,by rw[←h.lenR];omega⟩]
   simp only[Bool.and_self,if_true,Int.toNat_natCast]
   have e2:ptrB (M.roots.getD r 0)=true:=by unfold ptrB;rw[c6];simpa using c7
   have e3:rawB (hKind (wat M.W (placeW (M.roots.getD r 0)).toNat))=false:=by rw[e1,h.morph.kind b c2];exact hr.raw
   have e4:0≤(k:Int)∧(k:Int)<hSize (wat M.W (placeW (M.roots.getD r 0)).toNat):=by
    have hk:=hr.k
    unfold szW at hk
    rw[e1,h.morph.size b c2];omega
   rw[if_pos (by rw[e2,e3];rfl),if_pos e4]
  ·unfold fieldP
   simp only[Int.toNat_natCast]
   rw[e1]
theorem Holds.get (h:Holds I M) {r a k s:Nat} (hr:RootAt I r a k) (hs:s<I.roots.length) :
  fieldC M (r:Int) (k:Int) (s:Int)=0∧Holds (I.setR s (wat I.V (a+1+k))) (rootM M s (wat M.W (fieldP M (r:Int) (k:Int)))):=by
 obtain⟨D,f,h⟩:=h
 obtain⟨h1,h2,h3⟩:=h.field hr hs
 rw[h3]
 exact⟨h2,D,f,h.setR s (h.morph.fld a h1 hr.raw k hr.k)⟩
theorem Holds.put (h:Holds I M) (hI:HInv M nx) {r a k s:Nat} (hr:RootAt I r a k) (hs:s<I.roots.length) :
  fieldC M (r:Int) (k:Int) (s:Int)=0∧Holds (I.put (a+1+k) (I.roots.getD s 0)) (storeM M (fieldP M (r:Int) (k:Int)) (M.roots.getD s 0)):=by
 obtain⟨D,f,h⟩:=h
 obtain⟨h1,h2,h3⟩:=h.field hr hs
 refine⟨h2,D,f,?_⟩
 rw[h3]
 have hg:=(chk_zero hI.chk).1
 obtain⟨g1,g2,g3,g4,g5,g6⟩:=good_parts hg
 obtain⟨lN,lO,hG⟩:=good_of hI.chk
 have hall:(objsAll M).map (·.a)=lN++lO:=by
  rw[hG.all,List.map_map];exact (List.map_congr_left fun x _=>rfl).trans (List.map_id _)
 have hob:∀ a,D a→f a∈lN++lO:=fun a ha=>by rw[←hall];exact h.obj a ha
 have hsz:∀ a,D a→szW M.W (f a)=szW I.V a:=fun a ha=>by unfold szW;rw[h.morph.size a ha]
 have hk:=hr.k
 have hjM:f a+1+k<M.W.length:=by have:=hG.inW (hob a h1);rw[hsz a h1] at this;omega
 have hjI:a+1+k<I.V.length:=by have:=h.dom a h1;omega
 have hWe:(storeM M (f a+1+k) (M.roots.getD s 0)).W=M.W.set (f a+1+k) (M.roots.getD s 0):=by unfold storeM;split<;>rfl
 obtain⟨e1,e2,e3,e4,e5,e6,e7,e8,e9⟩:=storeM_same M (f a+1+k) (M.roots.getD s 0)
 have oM:∀ i,i≠f a+1+k→wat (storeM M (f a+1+k) (M.roots.getD s 0)).W i=wat M.W i:=fun i hi=>by rw[hWe];exact wat_set _ _ _ _ hi
 have oI:∀ i,i≠a+1+k→wat (I.put (a+1+k) (I.roots.getD s 0)).V i=wat I.V i:=fun i hi=>wat_set _ _ _ _ hi
 have nM:wat (storeM M (f a+1+k) (M.roots.getD s 0)).W (f a+1+k)=M.roots.getD s 0:=by rw[hWe];exact wat_set_same _ _ _ hjM
 have nI:wat (I.put (a+1+k) (I.roots.getD s 0)).V (a+1+k)=I.roots.getD s 0:=wat_set_same _ _ _ hjI
 have apI:∀ b,D b→b≠a→∀ i,b≤i→i<b+1+szW I.V b→i≠a+1+k:=fun b hb hn i i1 i2=>by
  rcases Nat.lt_or_gt_of_ne hn with q|q
  ·have:=h.apart b a hb h1 q;omega
  ·have:=h.apart a b h1 hb q;omega
 have apM:∀ b,D b→b≠a→∀ i,f b≤i→i<f b+1+szW I.V b→i≠f a+1+k:=fun b hb hn i i1 i2=>by
  have hn2:f b≠f a:=fun e=>hn (h.morph.inj b a hb h1 e)
  rcases hG.apart (hob b hb) (hob a h1) hn2 with q|q
  ·rw[hsz b hb] at q;omega
  ·rw[hsz a h1] at q;omega
 have hdM:∀ b,D b→wat (storeM M (f a+1+k) (M.roots.getD s 0)).W (f b)=wat M.W (f b):=fun b hb=>oM _ (by
  by_cases e:b=a
  ·subst e;omega
  ·exact apM b hb e (f b) (Nat.le_refl _) (by omega))
 have hdI:∀ b,D b→wat (I.put (a+1+k) (I.roots.getD s 0)).V b=wat I.V b:=fun b hb=>oI _ (by
  by_cases e:b=a
  ·subst e;omega
  ·exact apI b hb e b (Nat.le_refl _) (by omega))
 have hszI:∀ b,D b→szW (I.put (a+1+k) (I.roots.getD s 0)).V b=szW I.V b:=fun b hb=>by unfold szW;rw[hdI b hb]
 have hlen:(I.put (a+1+k) (I.roots.getD s 0)).V.length=I.V.length:=List.length_set
 have hobj:(objsAll (storeM M (f a+1+k) (M.roots.getD s 0))).map (·.a)=(objsAll M).map (·.a):=by
  obtain⟨pN,pO⟩:=partN_set g2 (f a+1+k) (M.roots.getD s 0) (fun y hy=>by
   obtain⟨x,hx,ex⟩:=List.mem_map.1 (h.obj a h1)
   rw[←ex]
   refine all_apart g1 hx hy k ?_
   have hw:=(mem_in g1 hx).2.1
   show k<(hSize x.w).toNat
   rw[hw,ex,h.morph.size a h1]
   exact hk)
  have e:objsAll (storeM M (f a+1+k) (M.roots.getD s 0))=objsAll (setM M (f a+1+k) (M.roots.getD s 0)):=by unfold storeM;split<;>rfl
  rw[e]
  unfold objsAll
  rw[pN,pO]
 refine⟨⟨h.morph.inj,fun b hb=>by rw[hdM b hb,hdI b hb];exact h.morph.kind b hb,fun b hb=>by rw[hdM b hb,hdI b hb];exact h.morph.size b hb,fun b hb hq i hi=>?_,fun b hb hq i hi=>?_⟩,fun b hb=>by rw[hlen,hszI b hb];exact h.dom b hb,fun b c hb hc hbc=>by rw[hszI b hb];exact h.apart b c hb hc hbc,fun b hb=>by rw[hobj];exact h.obj b hb,by rw[e7];exact h.lenR,fun i hi=>by rw[e7];exact h.roots i hi,by rw[e8];exact h.lenK,fun i hi=>by rw[e8];exact h.weak i hi,fun u s2 hu=>by rw[e9];exact h.ids1 u s2 hu,fun v s2 hv=>by rw[e9] at hv;exact h.ids2 v s2 hv,fun i hi=>by rw[hlen];exact h.wkV i hi,fun u s2 hu=>by rw[hlen];exact h.idV u s2 hu,h.nodes⟩
 ·rw[hszI b hb] at hi
  rw[hdI b hb] at hq
  by_cases e:b=a
  ·subst e
   by_cases e2:i=k
   ·subst e2
    rw[nM,nI]
    exact h.roots s hs
   ·rw[oM _ (by omega),oI _ (by omega)]
    exact h.morph.fld b hb hq i hi
  ·rw[oM _ (apM b hb e _ (by omega) (by omega)),oI _ (apI b hb e _ (by omega) (by omega))]
   exact h.morph.fld b hb hq i hi
 ·rw[hszI b hb] at hi
  rw[hdI b hb] at hq
  have e:b≠a:=fun e=>by subst e;rw[hr.raw] at hq;cases hq
  rw[oM _ (apM b hb e _ (by omega) (by omega)),oI _ (apI b hb e _ (by omega) (by omega))]
  exact h.morph.raw b hb hq i hi
end
section
variable {I:Ideal} {M:Mem} {D:Nat→Prop} {f:Nat→Nat} {ten nx:Int}
theorem Moved.live {N:Mem} {go:Int→Int × Bool} {E:Nat→Prop} {g:Nat→Nat} (hm:Moved M N go E g):liveM N=liveM M:=by
 obtain⟨all,hk⟩:=hm.kept
 exact live_map hk.morph hk.lenW hk.lenR hk.roots
theorem live_major (hI:HInv M nx):liveM (majorH M)=liveM M:=by
 unfold majorH
 split
 ·rename_i hl;exact (major_moved (hI.full hl)).live
 ·rfl
theorem live_minor (ht:0≤ten∧ten≤15) (hI:HInv M nx):liveM (minorH M ten)=liveM M:=by
 unfold minorH
 split
 ·rename_i hl;exact (minor_moved (M:=M) (ten:=ten) ⟨hI.ok,hI.chk,ht,by assumption⟩).live
 ·exact live_major hI
theorem majorC_full (h:majorC M≠0):M.old<(liveM M:Int):=by
 unfold majorC at h
 split at h
 ·exact absurd rfl h
 ·omega
theorem minorC_full (h:minorC M≠0):M.old<(liveM M:Int):=by
 unfold minorC at h
 split at h
 ·exact absurd rfl h
 ·exact majorC_full h
theorem obj_full (ht:0≤ten∧ten≤15) (hI:HInv M nx) {sz:Nat} (hc:objC M ten sz≠0):M.old<(liveM M:Int)+1+sz:=by
 by_cases h1:o1C M (1+sz)=0
 ·obtain⟨i1,s1⟩:=o1_inv (n:=1+(sz:Int)) ht hI
  have l1:liveM (o1M M ten (1+sz))=liveM M:=by
   unfold o1M
   split
   ·exact live_minor ht hI
   ·rfl
  have o1:=s1.old
  by_cases h2:o2C (o1M M ten (1+sz)) (1+sz)=0
  ·have h3:o3C (midM M ten sz) (1+sz)≠0:=fun e=>hc (obj_ok (kind:=0) h1 h2 e).1
   unfold midM at h3
   generalize o1M M ten (1+sz)=M1 at *
   unfold o3C at h3
   split at h3
   ·exact absurd rfl h3
   ·rename_i q1
    split at h3
    ·exact absurd rfl h3
    ·rename_i q2
     unfold o2M at q1 q2
     by_cases hb:o2B M1 (1+sz)=true
     ·rw[if_pos hb] at q1 q2
      unfold o2C at h2
      rw[if_pos hb] at h2
      unfold majorC at h2
      split at h2
      ·rename_i hl
       unfold majorH at q1 q2
       rw[if_pos hl] at q1 q2
       have e1:(majM M1).old=M1.old:=rfl
       have e2:(majM M1).oldTop=(liveM M1:Int):=rfl
       rw[e1,e2] at q2
       omega
      ·cases h2
     ·rw[if_neg hb] at q1 q2
      exfalso
      apply hb
      unfold o2B
      rw[decide_eq_true (show M1.half<M1.top+(1+sz) by omega),decide_eq_true (show M1.old-M1.oldTop<1+(sz:Int) by omega)]
      simp
  ·unfold o2C at h2
   split at h2
   ·have:=majorC_full h2;omega
   ·exact absurd rfl h2
 ·unfold o1C at h1
  split at h1
  ·have:=minorC_full h1;omega
  ·exact absurd rfl h1
theorem Rep.live_le (h:Rep I M D f) (hg:goodB M=true):liveI I≤(I.P.map fun a=>1+szW I.V a).sum:=by
 obtain⟨-,hi,-,hnd⟩:=h.reach hg
 have e:liveI I=(((reachI I).map (·.a)).map fun a=>1+szW I.V a).sum:=by
  unfold liveI
  rw[List.map_map]
  congr 1
  refine List.map_congr_left fun o ho=>?_
  obtain⟨-,eo⟩:=hi o ho
  show 1+o.n=1+szW I.V o.a
  unfold Ob.n szW
  rw[eo];rfl
 rw[e]
 exact sum_sub _ _ _ hnd fun a ha=>by
  obtain⟨o,ho,rfl⟩:=List.mem_map.1 ha
  exact h.nodes _ (hi o ho).1
def Ideal.fresh (n:Nat):Ideal:=⟨[],[],List.replicate n 2,[],[]⟩
theorem holds_fresh (half old card:Int) (n:Nat):Holds (Ideal.fresh n) (newHM half old card n):=by
 refine⟨fun _=>False,fun a=>a,⟨fun a b h=>h.elim,fun a h=>h.elim,fun a h=>h.elim,fun a h=>h.elim,fun a h=>h.elim⟩,fun a h=>h.elim,fun a b h=>h.elim,fun a h=>h.elim,rfl,fun i hi=>?_,rfl,fun i hi=>?_,fun u s hu=>?_,fun v s hv=>?_,fun i hi=>?_,fun u s hu=>?_,fun a h=>h.elim⟩
 ·have hi':i<n:=by simpa [Ideal.fresh] using hi
  left
  show ptsW ((List.replicate n (2:Int)).getD i 0)<0∧(List.replicate n (2:Int)).getD i 0=(List.replicate n (2:Int)).getD i 0
  rw[List.getD_eq_getElem?_getD,List.getElem?_replicate,if_pos hi']
  exact⟨by decide,rfl⟩
 ·simp[Ideal.fresh] at hi
 ·simp[Ideal.fresh] at hu
 ·simp[newHM,newM] at hv
 ·simp[Ideal.fresh] at hi
 ·simp[Ideal.fresh] at hu
end
def strL (s:ByteArray):List Int:=bytesW (bnums s)
theorem strL_len (s:ByteArray):(strL s).length=(s.size+7)/8:=by unfold strL bytesW;rw[List.length_map,List.length_range,bnums_len]
def strN (s:ByteArray):Nat:=1+(s.size+7)/8
def strW (W:List Int) (a:Nat) (s:ByteArray):List Int:=splice (W.set (a+1) (s.size:Int)) (a+1+1) (strL s)
def strM (N:Mem) (a:Nat) (s:ByteArray):Mem:={N with W:=strW N.W a s}
def textM (M:Mem) (ten:Int) (s:ByteArray):Mem:=if objC M ten (strN s)=0 then strM (objM M ten 2 (strN s)) (objPl M ten (strN s)).toNat s else objM M ten 2 (strN s)
def textV (M:Mem) (ten:Int) (s:ByteArray):Int:=if objC M ten (strN s)=0 then addrW (objPl M ten (strN s)) else 0
section
variable {B hb b:Nat} {M:Mem} {S:Sls} {E:Nat→Addr} {ten nx:Int}
theorem rsl_keep {L:Nat→Prop} {w w':World} {g:Nat} {cs:List Value} (h:RSl w (some ⟨g,0,none⟩) cs) (hk:Keep L w w') (hn:¬L g):RSl w' (some ⟨g,0,none⟩) cs:=fun j u hu=>by
 have:=h.at_ hu
 exact⟨g,0,rfl,hk.cell (p:=⟨g,0+j,none⟩) hn this⟩
theorem copy_words {w:World} {l:List Int} (h:OHeap w B hb b M S ten nx) {g:Nat} (hg:S.W.1=some ⟨g,0,none⟩) (A:Option Addr) (C d:Nat) (hd:d+l.length≤M.W.length) (hA:d<S.W.2→A=some ⟨g,d,none⟩) (lb:Nat) (c2:Nat) (hR:RSl w (some ⟨lb,0,none⟩) (wcells l)) :
  ∃ w',(Builtin.copy_ #[76,76] 3 #[.slice A (M.W.length-d) C,.slice (some ⟨lb,0,none⟩) l.length c2]).run Tryz.prog w=.ok (goInt l.length) w'∧OHeap w' B hb b {M with W:=splice M.W d l} S ten nx∧HStep hb b w S w' S:=by
 by_cases hl:l.length=0
 ·have e:l=[]:=List.eq_nil_of_length_eq_zero hl
  subst e
  refine⟨w,?_,?_,HStep.of_ext (Ext.refl _)⟩
  ·have:=run_copy_none (P:=Tryz.prog) w 76 76 3 78 A (some ⟨lb,0,none⟩) (M.W.length-d) C 0 c2 undU64 sizeF0 (by simp)
   exact this
  ·have:splice M.W d []=M.W:=by simp[splice]
   rw[this];exact h
 ·obtain⟨g',hg',-,-,-,hgc,-⟩:=own_block (OMem.fW h.mem) (by omega)
  have hll:(wcells l).length=l.length:=by simp[wcells]
  have hwl:(wcells M.W).length=M.W.length:=by simp[wcells]
  obtain⟨w',hr,hb',ho⟩:=copy_over (P:=Tryz.prog) (W:=w) 76 3 78 undU64 sizeF0 (B:=B) (a:=S.W.1) (c:=S.W.2) (xs:=wcells M.W) (by rw[hwl];exact OMem.fW h.mem) hg A (some ⟨lb,0,none⟩) C c2 d (M.W.length-d) (wcells l) (hA (by omega)) ⟨lb,0,none⟩ rfl
   (fun k u hu=>by
    have:=hR.at_ hu
    by_cases e:k=0
    ·subst e;simpa [Addr.add] using this
    ·simpa [Addr.add,e] using this) (wcells_one l) (by omega) (by omega) (by omega)
  rw[hll] at hr
  rw[hwl] at ho
  have hs:(splice M.W d l).length=M.W.length:=length_splice _ _ _ hd
  have hO:OMem w' B b 140 {M with W:=splice M.W d l} S:=OMem.rowW h.mem hg hb' _ hs (by rw[wcells_splice];exact ho)
  obtain⟨z1,z2⟩:=h.step hO (⟨hb'.os,hb'.tape,hb'.output,Nat.le_of_eq hb'.size.symm,fun k hk hn=>hb'.block k (fun e=>hn (Or.inr (Or.inl (by rw[e];exact hg))))⟩) (fun _ q=>Or.inl q)
  exact⟨w',hr,z1,z2⟩
theorem string_walk (w:World) (hH:OHeap w B hb b M S ten nx) (hI:HInv M nx) (hE:G4 E w) (ht:0≤ten∧ten≤15) (hB:GB B) (s:ByteArray) (hs:s.size≤2000) :
  Calls Tryz.prog 123 #[.pointer (some ⟨hb,0,none⟩),.string s] w (HPost w B hb b S ten (textM M ten s) nx (.tuple #[.int .u64 (textV M ten s),errC E (objC M ten (strN s))])):=by
 have HH:=Lib.hid hH
 have HI:=Lib.hid hI
 have HE:=Lib.hid hE
 have HB:=Lib.hid hB
 obtain⟨i1,i2,i3⟩:=objM_inv (sz:=strN s) ht hI 2 (by omega) (by unfold strN;omega)
 have I1:=Lib.hid i1
 have I3:=Lib.hid i3
 have hsl:=strL_len s
 obtain⟨m,hm⟩:∃ m,m=(s.size+7)/8:=⟨_,rfl⟩
 have hnN:strN s=1+m:=by unfold strN;rw[hm]
 have hm250:m≤250:=by omega
 have f0:IntKind.i64.wrap (1+(m:Int))=((1+m:Nat):Int):=by rw[IntWalk.i64_in _ (by omega)];omega
 have fz:IntKind.u64.wrap (s.size:Int)=(s.size:Int):=IntWalk.u64_in _ (by omega)
 rw[←hm] at hsl
 have HM:=Lib.hid hm
 have hlb:∀ k,HL hb b S k→k<w.heap.size:=fun k hk=>(hH.own hk).2
 have HLB:=Lib.hid hlb
 have HN:=Lib.hid hnN
 have HSL:=Lib.hid hsl
 clear hH hI hE hB i1 i2 i3 hlb hsl
 have HBY:=Lib.hid (bytes_walk s (by omega) w)
 rw[←hm] at HBY
 by_cases hc:objC M ten (strN s)=0
 ·obtain⟨a,ha,hN⟩:=I3.out hc
  have e1:textM M ten s=strM (objM M ten 2 (strN s)) a s:=by unfold textM;rw[if_pos hc,ha];rfl
  have e2:textV M ten s=addrW (a:Int):=by unfold textV;rw[if_pos hc,ha]
  have e3:errC E (objC M ten (strN s))=.nilIface:=by rw[hc];rfl
  rw[e1,e2,e3]
  have HC0:=Lib.hid e3
  have HPL:=Lib.hid ha
  have hlen:=hN.len
  have hla:=len_small (good_parts (chk_zero I1.out.chk).1).1
  obtain⟨N,hN2⟩:∃ N,N=objM M ten 2 (strN s):=⟨_,rfl⟩
  rw[←hN2] at hlen hla ⊢
  rw[hnN] at hlen
  have HN2:=Lib.hid hN2
  have f1:IntKind.i64.wrap ((a:Int)+1)=((a+1:Nat):Int):=by rw[IntWalk.i64_in _ (by omega)];omega
  have f2:IntKind.i64.wrap ((a:Int)+2)=(a:Int)+2:=IntWalk.i64_in _ (by omega)
  clear e1 e2 e3 hc ha hN hN2 hm
  go_enter Tryz.func123,Tryz.ntmps123
  go_upto_region 5 with (first
   | (go_at_call 153;refine HBY.out.mono ?_;rintro e w1 ⟨rfl,hrow,hq⟩;have HX1:=Lib.hid hq;have HRW:Hid (RSl w1 (some ⟨w.heap.size,0,none⟩) (wcells (strL s))):=(row_rsl hrow).1;have HWZ:Hid (w.heap.size<w1.heap.size):=(hrow.lt w.heap.size rfl).2;clear hrow hq)
   | (go_at_call 41;refine (object_walk 2 (1+m) _ (HH.out.ext HX1.out) HI.out (HE.out.ext HX1.out) ht HB.out (by omega) (by omega)).mono ?_;rintro e w2 ⟨he,S2,h1,h2⟩;rw[←HN.out,HC0.out,HPL.out] at he;subst he;rw[←HN.out,←HN2.out] at h1;have HH2:=Lib.hid h1;have H2S:=Lib.hid h2;have HS2:Hid (HStep hb b w S w2 S2):=(HStep.of_ext HX1.out).trans_ h2;have HR2:Hid (RSl w2 (some ⟨w.heap.size,0,none⟩) (wcells (strL s))):=rsl_keep HRW.out h2.keep (fun e=>absurd (HLB.out _ e) (by omega));have HBZ:Hid (w.heap.size<w2.heap.size):=Nat.lt_of_lt_of_le HWZ.out h2.keep.size;clear h1 h2))
  have q0:=HH2.out.ptr
  obtain⟨g,hg,-,-,hgf,hgc,-⟩:=own_block (OMem.fW HH2.out.mem) (by omega)
  have hfg:=hgf (a+1)
  have c3:=(HH2.out.mem.fld ⟨3,78,1,S2.W.1,N.W.length,S2.W.2,wcells N.W⟩ (by simp[memFlds])).1
  have hcell:=((row_rsl (OMem.fW HH2.out.mem)).1)
  rw[hg] at hcell
  replace hcell:=hcell.at_ (wcells_at N.W (a+1) (by omega))
  simp only[Nat.zero_add] at hcell
  simp only[Fld.val,hg] at c3
  have hjl:a+1<N.W.length:=by omega
  obtain⟨z1,z2⟩:=HH2.out.setW hg (a+1) hjl (s.size:Int)
  generalize N.W.getD (a+1) 0=xx at *
  have HG:=Lib.hid hg
  obtain⟨A,C,hsl2,hA⟩:=run_tail (P:=Tryz.prog) undU64 sizeU64 g N.W.length S2.W.2 (a+1+1) ((a:Int)+2) (by omega) (by omega) hgc
  have hsl3:N.W.length=(N.W.set (a+1) (s.size:Int)).length:=by simp
  have hR2:RSl (w2.setCell ⟨g,a+1,none⟩ (.int .u64 (s.size:Int))) (some ⟨w.heap.size,0,none⟩) (wcells (strL s)):=rsl_keep HR2.out z2.keep (fun e=>by
   rcases H2S.out.own _ e with q|q
   ·have:=HLB.out _ q;omega
   ·have:=HWZ.out;omega)
  obtain⟨w5,hrun,y1,y2⟩:=copy_words z1 (l:=strL s) hg A C (a+1+1) (by rw[←hsl3,HSL.out];omega) hA w.heap.size m hR2
  rw[←hsl3,HSL.out] at hrun
  have HY1:=Lib.hid y1
  have HY2:=Lib.hid ((HS2.out.trans_ z2).trans_ y2)
  have z0:=z1.ptr
  have z3:=(z1.mem.fld ⟨3,78,1,S2.W.1,(N.W.set (a+1) (s.size:Int)).length,S2.W.2,wcells (N.W.set (a+1) (s.size:Int))⟩ (by simp[memFlds])).1
  simp only[Fld.val,HG.out] at z3
  rw[←hsl3] at z3
  clear z1 z2 y1 y2 hgf hg hR2 hA hsl3
  go_wp2_with (go_at_call 43;refine (addr_any _ _).mono ?_;rintro e w9 ⟨rfl,hw9⟩;have hw9:=hw9.symm;subst hw9)
  go_ret2
  exact⟨rfl,S2,HY1.out,HY2.out⟩
 ·have e1:textM M ten s=objM M ten 2 (strN s):=by unfold textM;rw[if_neg hc]
  have e2:textV M ten s=0:=by unfold textV;rw[if_neg hc]
  obtain⟨ea,hv⟩:∃ ea,Hid (errC E (objC M ten (strN s))=errV ea):=⟨_,errC_pos E _ hc⟩
  rw[e1,e2,hv.out]
  clear e1 e2 hc hm
  go_enter Tryz.func123,Tryz.ntmps123
  go_wp2_with (first
   | (go_at_call 153;refine HBY.out.mono ?_;rintro e w1 ⟨rfl,hrow,hq⟩;have HX1:=Lib.hid hq;have HRW:Hid (RSl w1 (some ⟨w.heap.size,0,none⟩) (wcells (strL s))):=(row_rsl hrow).1;have HWZ:Hid (w.heap.size<w1.heap.size):=(hrow.lt w.heap.size rfl).2;clear hrow hq)
   | (go_at_call 41;refine (object_walk 2 (1+m) _ (HH.out.ext HX1.out) HI.out (HE.out.ext HX1.out) ht HB.out (by omega) (by omega)).mono ?_;rintro e w2 ⟨he,S2,h1,h2⟩;rw[←HN.out,hv.out] at he;subst he;rw[←HN.out] at h1;have HH2:=Lib.hid h1;have H2S:=Lib.hid h2;have HS2:Hid (HStep hb b w S w2 S2):=(HStep.of_ext HX1.out).trans_ h2;have HR2:Hid (RSl w2 (some ⟨w.heap.size,0,none⟩) (wcells (strL s))):=rsl_keep HRW.out h2.keep (fun e=>absurd (HLB.out _ e) (by omega));have HBZ:Hid (w.heap.size<w2.heap.size):=Nat.lt_of_lt_of_le HWZ.out h2.keep.size;clear h1 h2))
  go_ret2
  exact⟨rfl,S2,HH2.out,HS2.out⟩
end
section
variable {B hb b:Nat} {M:Mem} {S:Sls} {E:Nat→Addr} {ten nx:Int}
theorem strL_u64 (s:ByteArray):∀ x∈strL s,0≤x∧x≤18446744073709551615:=fun x hx=>by
 obtain⟨i,-,rfl⟩:=List.mem_map.1 hx
 exact byteW_bound _ (bnums_bound s) i
theorem strW_at (W:List Int) (a:Nat) (s:ByteArray) (h:a+1+strN s≤W.length):(strW W a s).length=W.length∧∀ i,¬(a+1≤i∧i<a+1+strN s)→wat (strW W a s) i=wat W i:=by
 have hl:=strL_len s
 have hn:strN s=1+(s.size+7)/8:=rfl
 refine⟨?_,fun i hi=>?_⟩
 ·unfold strW
  rw[length_splice _ _ _ (by simp;omega)];simp
 ·unfold strW
  rw[wat_splice _ _ _ _ (by simp;omega),if_neg (by omega),wat_set _ _ _ _ (by omega)]
theorem textM_inv (ht:0≤ten∧ten≤15) (h:HInv M nx) (s:ByteArray) (hs:s.size≤2000):HInv (textM M ten s) nx∧SameH M (textM M ten s)∧(objC M ten (strN s)=0→∃ lN lO,Good (textM M ten s) lN lO∧fldB (stL lN lO) (textV M ten s)=true):=by
 have hn:strN s=1+(s.size+7)/8:=rfl
 obtain⟨i1,i2,i3⟩:=objM_inv ht h 2 (strN s) (by omega) (by omega)
 by_cases hc:objC M ten (strN s)=0
 ·obtain⟨a,ha,hN⟩:=i3 hc
  obtain⟨lN,lO,hg,hm⟩:=hN.good
  have e1:textM M ten s={objM M ten 2 (strN s) with W:=strW (objM M ten 2 (strN s)).W a s}:=by unfold textM;rw[if_pos hc,ha];rfl
  have e2:textV M ten s=addrW (a:Int):=by unfold textV;rw[if_pos hc,ha]
  have hlen:=hN.len
  obtain⟨s1,s2⟩:=strW_at (objM M ten 2 (strN s)).W a s hlen
  obtain⟨d1,d2,d3,d4,d5⟩:=headW_hd 2 0 0 (strN s:Int) (by omega) (by omega) (by omega) ⟨by omega,by omega⟩
  have hr:rawB (hKind (wat (objM M ten 2 (strN s)).W a))=true:=by rw[hN.hd,d2];rfl
  have hsz:szW (objM M ten 2 (strN s)).W a=strN s:=by unfold szW;rw[hN.hd,d5];omega
  obtain⟨k1,k2,k3⟩:=rawM_inv i1 hg hm hr (strW (objM M ten 2 (strN s)).W a s) s1 (fun i hi=>s2 i (by rw[hsz] at hi;exact hi)) (fun x hx=>by
   unfold strW at hx
   rcases splice_memI hx with q|q
   ·rcases List.mem_or_eq_of_mem_set q with q|q
    ·exact i1.ok.W x q
    ·rw[q];omega
   ·exact strL_u64 s x q)
  rw[e1,e2]
  exact⟨k1,i2.trans k2,fun _=>⟨lN,lO,k3,addr_fld hg hm⟩⟩
 ·have e1:textM M ten s=objM M ten 2 (strN s):=by unfold textM;rw[if_neg hc]
  rw[e1]
  exact⟨i1,i2,fun q=>absurd q hc⟩
theorem text_place (w:World) (hH:OHeap w B hb b M S ten nx) (hI:HInv M nx) (hE:G4 E w) (r:Int) (hr0:-9223372036854775808≤r∧r≤9223372036854775807) (s:ByteArray) (hR:rootB M r=false) :
  Calls Tryz.prog 68 #[.pointer (some ⟨hb,0,none⟩),.int .i64 r,.string s] w (HPost w B hb b S ten M nx (errC E 5)):=by
 have HH:=Lib.hid hH
 have HI:=Lib.hid hI
 have HE:=Lib.hid hE
 have HR:=Lib.hid hR
 clear hH hI hE hR
 go_enter Tryz.func68,Tryz.ntmps68
 go_wp2_with (go_at_call 40;refine (root1_any _ (HH.out.ext ((Ext.refl w).alloc_ _)) HI.out.ok w.heap.size r hr0.1 hr0.2 (by rw[World.cell?,heap_alloc_new];rfl)).mono ?_;rintro e w1 ⟨he,hq⟩;rw[HR.out] at he;subst he;have HX1:Hid (Ext w w1):=((Ext.refl w).alloc_ _).trans_ hq;clear hq;have k3:=(HE.out.ext HX1.out).place)
 go_ret
 exact⟨rfl,S,HH.out.ext HX1.out,HStep.of_ext HX1.out⟩
theorem text_bound (w:World) (hH:OHeap w B hb b M S ten nx) (hI:HInv M nx) (hE:G4 E w) (r:Int) (hr0:-9223372036854775808≤r∧r≤9223372036854775807) (s:ByteArray) (hR:rootB M r=true) (hs:¬s.size≤2000) :
  Calls Tryz.prog 68 #[.pointer (some ⟨hb,0,none⟩),.int .i64 r,.string s] w (HPost w B hb b S ten M nx (errC E 2)):=by
 have HH:=Lib.hid hH
 have HI:=Lib.hid hI
 have HE:=Lib.hid hE
 have HR:=Lib.hid hR
 have hs1:2000<s.size:=by omega
 have hs2:(2000:Int)<(s.size:Int):=by omega
 clear hH hI hE hR hs
 go_enter Tryz.func68,Tryz.ntmps68
 go_wp2_with (go_at_call 40;refine (root1_any _ (HH.out.ext ((Ext.refl w).alloc_ _)) HI.out.ok w.heap.size r hr0.1 hr0.2 (by rw[World.cell?,heap_alloc_new];rfl)).mono ?_;rintro e w1 ⟨he,hq⟩;rw[HR.out] at he;subst he;have HX1:Hid (Ext w w1):=((Ext.refl w).alloc_ _).trans_ hq;clear hq;have k3:=(HE.out.ext HX1.out).bound)
 go_ret
 exact⟨rfl,S,HH.out.ext HX1.out,HStep.of_ext HX1.out⟩
theorem text_walk (w:World) (hH:OHeap w B hb b M S ten nx) (hI:HInv M nx) (hE:G4 E w) (ht:0≤ten∧ten≤15) (hB:GB B) (r:Int) (hr0:-9223372036854775808≤r∧r≤9223372036854775807) (s:ByteArray) (hR:rootB M r=true) (hs:s.size≤2000) :
  Calls Tryz.prog 68 #[.pointer (some ⟨hb,0,none⟩),.int .i64 r,.string s] w (HPost w B hb b S ten (putR (textM M ten s) (objC M ten (strN s)) r.toNat (textV M ten s)) nx (errC E (objC M ten (strN s)))):=by
 have HH:=Lib.hid hH
 have HI:=Lib.hid hI
 have HE:=Lib.hid hE
 have HR:=Lib.hid hR
 have HB:=Lib.hid hB
 obtain⟨rn,rfl⟩:∃ rn:Nat,r=(rn:Int):=⟨r.toNat,by have:=(rootB_true.1 hR).1;omega⟩
 have hrl:rn<M.roots.length:=by have:=(rootB_true.1 hR).2;omega
 have hIN:=textM_inv ht hI s hs
 have HIN:=Lib.hid hIN.1
 have hrl2:rn<(textM M ten s).roots.length:=by rw[hIN.2.1.roots];exact hrl
 simp only[Int.toNat_natCast]
 have HRL:=Lib.hid hrl2
 generalize hV:textV M ten s=V
 have HV:=Lib.hid hV
 have HSZ:=Lib.hid hs
 have hs1:¬2000<s.size:=by omega
 have hs2:¬(2000:Int)<(s.size:Int):=by omega
 clear hH hI hE hR hB hIN hrl2 hV hs
 go_enter Tryz.func68,Tryz.ntmps68
 go_wp2_with (first
  | (go_at_call 40;refine (root1_any _ (HH.out.ext ((Ext.refl w).alloc_ _)) HI.out.ok w.heap.size (rn:Int) hr0.1 hr0.2 (by rw[World.cell?,heap_alloc_new];rfl)).mono ?_;rintro e w1 ⟨he,hq⟩;rw[HR.out] at he;subst he;have HX1:Hid (Ext w w1):=((Ext.refl w).alloc_ _).trans_ hq;clear hq)
  | (go_at_call 123;refine (string_walk _ (HH.out.ext HX1.out) HI.out (HE.out.ext HX1.out) ht HB.out s HSZ.out).mono ?_;rintro e w2 ⟨he,S2,h1,h2⟩;rw[HV.out] at he;subst he;have HH2:=Lib.hid h1;have HS2:Hid (HStep hb b w S w2 S2):=(HStep.of_ext HX1.out).trans_ h2;clear h1 h2)
  | (go_at_call 42;refine (set_any (E:=E) w2 HH2.out HIN.out.ok (objC M ten (strN s)) rn HRL.out V).mono ?_;rintro e w3 ⟨rfl,S3,h3,h4⟩;have HH3:=Lib.hid h3;have HS3:Hid (HStep hb b w S w3 S3):=HS2.out.trans_ h4;clear h3 h4))
 go_ret
 exact⟨rfl,S3,HH3.out,HS3.out⟩
end
def Ideal.addId (I:Ideal) (u s:Int):Ideal:={I with ids:=I.ids++[(u,s)]}
def Ideal.addWeak (I:Ideal) (u:Int):Ideal:={I with weak:=I.weak++[u]}
theorem pts_word {u:Int} {a:Nat} (h:ptsW u=(a:Int)):u=(a:Int)*4+4:=by
 obtain⟨h1,h2,h3⟩:=pts_at h
 unfold kindW at h1
 unfold placeW at h3
 omega
theorem getI_app {α:Type} {l:List α} {x d:α} {i:Nat} (h:i<l.length):(l++[x]).getD i d=l.getD i d:=by
 simp[List.getD_eq_getElem?_getD,List.getElem?_append_left h]
theorem getI_app_last {α:Type} {l:List α} {x d:α}:(l++[x]).getD l.length d=x:=by
 simp[List.getD_eq_getElem?_getD]
section
variable {I:Ideal} {M:Mem} {D:Nat→Prop} {f:Nat→Nat} {ten nx:Int}
theorem Rep.root_at (h:Rep I M D f) {r a:Nat} (hr:r<I.roots.length) (hp:ptsW (I.roots.getD r 0)=(a:Int)):D a∧ptsW (M.roots.getD r 0)=(f a:Int)∧Cor f D (I.roots.getD r 0) (M.roots.getD r 0):=by
 have hc:=h.roots r hr
 rcases hc with⟨q,-⟩|⟨b,c1,c2,c3,c4⟩
 ·omega
 ·obtain rfl:b=a:=by omega
  exact⟨c2,c3,Or.inr ⟨b,c1,c2,c3,c4⟩⟩
theorem Rep.root_no (h:Rep I M D f) {r:Nat} (hr:r<I.roots.length) (hp:ptsW (I.roots.getD r 0)<0):M.roots.getD r 0=I.roots.getD r 0:=by
 rcases h.roots r hr with⟨q,e⟩|⟨b,c1,-⟩
 ·exact e
 ·omega
theorem ptr_pts {u:Int} {a:Nat} (h:ptsW u=(a:Int)):ptrB u=true:=by
 obtain⟨h1,h2,-⟩:=pts_at h
 unfold ptrB;rw[h1];simpa using h2
theorem Rep.ser_old (h:Rep I M D f) {r a i:Nat} (hr:r<I.roots.length) (hp:ptsW (I.roots.getD r 0)=(a:Int)) (hi:i<M.ids.length) (he:(M.ids.getD i (0,0)).1=M.roots.getD r 0):∃ u,(u,(M.ids.getD i (0,0)).2)∈I.ids∧ptsW u=(a:Int):=by
 have hm:((M.ids.getD i (0,0)).1,(M.ids.getD i (0,0)).2)∈M.ids:=by
  rw[List.getD_eq_getElem?_getD,List.getElem?_eq_getElem hi]
  exact List.getElem_mem hi
 obtain⟨u,h1,h2⟩:=h.ids2 _ _ hm
 refine⟨u,h1,?_⟩
 obtain⟨r1,r2,-⟩:=h.root_at hr hp
 rw[he] at h2
 rcases h2 with⟨q,e⟩|⟨b,c1,c2,c3,-⟩
 ·rw[e] at r2;omega
 ·rw[c1,h.morph.inj b a c2 r1 (by omega)]
theorem Rep.ser_new (h:Rep I M D f) {r a:Nat} (hr:r<I.roots.length) (hp:ptsW (I.roots.getD r 0)=(a:Int)) (hn:∀ x∈M.ids,x.1≠M.roots.getD r 0) (s:Int) :
  (∀ u s,(u,s)∈I.ids→ptsW u≠(a:Int))∧Rep (I.addId (I.roots.getD r 0) s) {M with ids:=M.ids++[(M.roots.getD r 0,s)]} D f:=by
 obtain⟨r1,r2,r3⟩:=h.root_at hr hp
 refine⟨fun u t hu e=>?_,h.morph,h.dom,h.apart,h.obj,h.lenR,h.roots,h.lenK,h.weak,fun u t hu b hb hd=>?_,fun v t hv=>?_,h.wkV,fun u t hu=>?_,h.nodes⟩
 ·obtain⟨v,c,hv⟩:=h.ids1 u t hu a e r1
  rcases c with⟨q,-⟩|⟨b,c1,c2,c3,-⟩
  ·omega
  ·obtain rfl:b=a:=by omega
   exact hn _ hv ((pts_word c3).trans (pts_word r2).symm)
 ·rcases List.mem_append.1 hu with q|q
  ·obtain⟨v,c,hv⟩:=h.ids1 u t q b hb hd
   exact⟨v,c,List.mem_append.2 (Or.inl hv)⟩
  ·simp only[List.mem_singleton,Prod.mk.injEq] at q
   obtain⟨rfl,rfl⟩:=q
   exact⟨_,r3,List.mem_append.2 (Or.inr (by simp))⟩
 ·rcases List.mem_append.1 hv with q|q
  ·obtain⟨u,hu,c⟩:=h.ids2 v t q
   exact⟨u,List.mem_append.2 (Or.inl hu),c⟩
  ·simp only[List.mem_singleton,Prod.mk.injEq] at q
   obtain⟨rfl,rfl⟩:=q
   exact⟨_,List.mem_append.2 (Or.inr (by simp)),r3⟩
 ·rcases List.mem_append.1 hu with q|q
  ·exact h.idV u t q
  ·simp only[List.mem_singleton,Prod.mk.injEq] at q
   obtain⟨rfl,rfl⟩:=q
   show ptsW (I.roots.getD r 0)<(I.V.length:Int)
   have:=h.dom a r1
   omega
theorem Rep.addWeak (h:Rep I M D f) {r a:Nat} (hr:r<I.roots.length) (hp:ptsW (I.roots.getD r 0)=(a:Int)):Rep (I.addWeak (I.roots.getD r 0)) {M with weak:=M.weak++[M.roots.getD r 0]} D f:=by
 obtain⟨r1,r2,r3⟩:=h.root_at hr hp
 have hk:=h.lenK
 have hcase:∀ i,i<(I.weak++[I.roots.getD r 0]).length→(i<I.weak.length∧(I.weak++[I.roots.getD r 0]).getD i 0=I.weak.getD i 0∧(M.weak++[M.roots.getD r 0]).getD i 0=M.weak.getD i 0)∨((I.weak++[I.roots.getD r 0]).getD i 0=I.roots.getD r 0∧(M.weak++[M.roots.getD r 0]).getD i 0=M.roots.getD r 0):=fun i hi=>by
  by_cases q:i<I.weak.length
  ·exact Or.inl ⟨q,getI_app q,getI_app (by rw[←hk];exact q)⟩
  ·have:i=I.weak.length:=by simp at hi;omega
   subst this
   refine Or.inr ⟨getI_app_last,?_⟩
   rw[hk];exact getI_app_last
 refine⟨h.morph,h.dom,h.apart,h.obj,h.lenR,h.roots,by show (I.weak++_).length=(M.weak++_).length;simp[hk],fun i hi=>?_,h.ids1,h.ids2,fun i hi=>?_,h.idV,h.nodes⟩
 ·show Cor f D ((I.weak++[I.roots.getD r 0]).getD i 0) ((M.weak++[M.roots.getD r 0]).getD i 0)∨_
  rcases hcase i hi with⟨q,e1,e2⟩|⟨e1,e2⟩
  ·have hw:=h.weak i q
   rw[←e1,←e2] at hw
   exact hw
  ·rw[e1,e2];exact Or.inl r3
 ·show ptsW ((I.weak++[I.roots.getD r 0]).getD i 0)<(I.V.length:Int)
  rcases hcase i hi with⟨q,e1,-⟩|⟨e1,-⟩
  ·rw[e1];exact h.wkV i q
  ·rw[e1];have:=h.dom a r1;omega
theorem Rep.look (h:Rep I M D f) {i a:Nat} (hi:i<I.weak.length) (hp:ptsW (I.weak.getD i 0)=(a:Int)) (t:Nat) :
  (kindW (M.weak.getD i 0)=0∧Rep (I.setR t (I.weak.getD i 0)) (rootM M t (M.weak.getD i 0)) D f∧D a)∨(M.weak.getD i 0=2∧Rep (I.setR t 2) (rootM M t (M.weak.getD i 0)) D f∧¬D a):=by
 rcases h.weak i hi with c|⟨c1,b,c2,c3⟩
 ·left
  have c0:=c
  rcases c with⟨q,-⟩|⟨b,q1,q2,q3,q4,q5,q6,q7⟩
  ·omega
  ·obtain rfl:b=a:=by omega
   exact⟨q6,h.setR t c0,q2⟩
 ·right
  obtain rfl:b=a:=by omega
  refine⟨c1,?_,c3⟩
  rw[c1]
  exact h.setR t (Or.inl ⟨by decide,rfl⟩)
theorem Rep.gone (h:Rep I M D f) (hg:goodB M=true) {a:Nat} (ha:¬D a):¬a∈(reachI I).map (·.a):=fun hm=>by
 obtain⟨o,ho,rfl⟩:=List.mem_map.1 hm
 exact ha ((h.reach hg).2.1 o ho).1
end
end Go.Proofs.YtelhoppfidibiaaGreatDoor
