/- The walk of Memory.Get. -/
import Derived.Test.YtelhoppfidibiaaGreatDoorJTa14
import Derived.Test.YtelhoppfidibiaaGreatDoorJTa07
import Derived.Test.YtelhoppfidibiaaGreatDoorJTa06
set_option linter.unusedSimpArgs false
set_option linter.unusedVariables false
set_option maxHeartbeats 1000000
namespace Go.Proofs.YtelhoppfidibiaaGreatDoor
open Go.RowKit
structure Found (M:Mem) (p f:Int) (x:Ob) (k:Nat):Prop where
 chk:chk M=0
 kind:kindW p=0
 nz:p≠0
 mem:x∈objsAll M
 place:placeW p=(x.a:Int)
 inst:inSt (startsM M) (x.a:Int)=true
 fld:f=(k:Int)
 lt:k<x.n
 size:(x.n:Int)=hSize x.w
 small:hSize x.w≤4096
 word:x.w=wat M.W x.a
 into:x.a+1+k<M.W.length
def withC (M:Mem) (C:List Bool):Mem:={M with cards:=C}
def More (C:List Bool) (M:Mem):Prop:=C.length=M.cards.length∧∀ j,M.cards.getD j false=true→C.getD j false=true
theorem mem_in {M:Mem} {x:Ob} (hs:Shp M) (hx:x∈objsAll M):x.a+1+x.n≤M.W.length∧x.w=wat M.W x.a∧isHd x.w=true:=by
 have h1:=hs.h1;have h2:=hs.t2;have h3:=hs.p2;have h4:=hs.w;have h5:=hs.base;have h6:=hs.o2;have h7:=hs.t1;have h8:=hs.p1
 rcases obM_of hx with h|h
 ·have:=h.to;exact⟨by omega,h.w,h.hd⟩
 ·have:=h.to;exact⟨by omega,h.w,h.hd⟩
theorem len_small {M:Mem} (hs:Shp M):M.W.length≤196608:=by have h1:=hs.w;have h2:=hs.h2;have h3:=hs.o2;omega
theorem getD_set_true (C:List Bool) (i j:Nat) (h:C.getD j false=true):(C.set i true).getD j false=true:=by
 rw[List.getD_eq_getElem?_getD] at h ⊢
 rw[List.getElem?_set]
 split
 ·rename_i e;subst e
  split
  ·rfl
  ·rename_i hl
   rw[List.getElem?_eq_none (by omega)] at h
   simp at h
 ·exact h
theorem found_n {M:Mem} (hok:M.Ok) (hs:Shp M) {x:Ob} (hx:x∈objsAll M):(x.n:Int)=hSize x.w:=by
 obtain⟨_,m2,_⟩:=mem_in hs hx
 have h00:=(hd_in x.w (by rw[m2];exact (wat_in hok _).1)).2.2.2.2.2.2
 unfold Ob.n;omega
theorem fld_ok {M:Mem} (h:(objsAll M).all (okFld M (startsM M))=true) {x:Ob} (hx:x∈objsAll M) (hr:rawB (hKind x.w)=false) (j:Nat) (hj:j<x.n):fldB (startsM M) (wat M.W (x.a+1+j))=true:=by
 rw[List.all_eq_true] at h
 have:=h x hx
 unfold okFld at this
 rw[hr,Bool.false_or] at this
 exact fld_of this j hj
theorem wat_set (W:List Int) (j:Nat) (v:Int) (i:Nat) (h:i≠j):wat (W.set j v) i=wat W i:=by
 unfold wat
 rw[List.getD_eq_getElem?_getD,List.getD_eq_getElem?_getD,List.getElem?_set_ne (Ne.symm h)]
theorem wat_set_same (W:List Int) (j:Nat) (v:Int) (h:j<W.length):wat (W.set j v) j=v:=by
 unfold wat
 rw[List.getD_eq_getElem?_getD,List.getElem?_set_self h];rfl
theorem objs_set (W:List Int) (to j:Nat) (v:Int):∀ f a:Nat,(objs W to f a).2=true→(∀ o∈(objs W to f a).1,o.a≠j)→objs (W.set j v) to f a=objs W to f a
 | 0,a,_,_=>rfl
 | f+1,a,h,hn=>by
  unfold objs at h hn ⊢
  by_cases h1:a<to
  ·rw[if_pos h1] at h hn ⊢
   rw[if_pos h1]
   by_cases h2:(isHd (wat W a)&&decide (a+1+(hSize (wat W a)).toNat≤to))=true
   ·rw[if_pos h2] at h hn ⊢
    have ha:a≠j:=hn ⟨a,wat W a⟩ (by simp)
    rw[wat_set W j v a ha,if_pos h2,objs_set W to j v f _ h (fun o ho=>hn o (by simp[ho]))]
   ·rw[if_neg h2] at h;cases h
  ·rw[if_neg h1,if_neg h1]
theorem objs_pair (W:List Int) (to:Nat):∀ f a:Nat,(objs W to f a).1.Pairwise fun x y=>x.a+1+x.n≤y.a
 | 0,a=>by simp[objs]
 | f+1,a=>by
  unfold objs
  split
  ·split
   ·rw[List.pairwise_cons]
    refine⟨fun y hy=>?_,objs_pair W to f _⟩
    have:=(objs_in W to f _ y hy).lo
    unfold Ob.n;omega
   ·exact List.Pairwise.nil
  ·exact List.Pairwise.nil
theorem part_apart {W:List Int} {a to:Nat} {x y:Ob} (hx:x∈(part W a to).1) (hy:y∈(part W a to).1) (k:Nat) (hk:k<x.n):y.a≠x.a+1+k:=fun e=>by
 have hp:=objs_pair W to (to-a) a
 unfold part at hx hy
 generalize (objs W to (to-a) a).1=l at hx hy hp
 induction l with
 | nil=>cases hx
 | cons z l ih =>
  rw[List.pairwise_cons] at hp
  rcases List.mem_cons.1 hx with h1|h1
  ·rcases List.mem_cons.1 hy with h2|h2
   ·rw[h1,h2] at e;omega
   ·have:=hp.1 y h2;rw[h1] at e;rw[h1] at hk;omega
  ·rcases List.mem_cons.1 hy with h2|h2
   ·have:=hp.1 x h1;rw[h2] at e;omega
   ·exact ih h1 h2 hp.2
theorem all_apart {M:Mem} (hs:Shp M) {x y:Ob} (hx:x∈objsAll M) (hy:y∈objsAll M) (k:Nat) (hk:k<x.n):y.a≠x.a+1+k:=by
 have h1:=hs.h1;have h2:=hs.t2;have h5:=hs.base;have h7:=hs.t1
 unfold objsAll at hx hy
 rcases List.mem_append.1 hx with hx|hx
 ·rcases List.mem_append.1 hy with hy|hy
  ·exact part_apart hx hy k hk
  ·have a1:=(part_in hx).to;have a2:=(part_in hy).lo;omega
 ·rcases List.mem_append.1 hy with hy|hy
  ·have a1:=(part_in hx).lo;have a2:=(part_in hy).to;omega
  ·exact part_apart hx hy k hk
theorem parts_true {M:Mem} (h:objsB M (okHd M)=true):(partN M).2=true∧(partO M).2=true:=by
 simp only[objsB,Bool.and_eq_true] at h
 exact⟨h.1.1,h.2.1⟩
theorem partN_set {M:Mem} (h:objsB M (okHd M)=true) (j:Nat) (v:Int) (hj:∀ y∈objsAll M,y.a≠j):partN (setM M j v)=partN M∧partO (setM M j v)=partO M:=by
 obtain⟨h1,h2⟩:=parts_true h
 have hb:(setM M j v).base=M.base:=rfl
 constructor
 ·unfold partN part at h1 ⊢
  exact objs_set M.W _ j v _ _ h1 (fun o ho=>hj o (List.mem_append_left _ (by unfold partN part;exact ho)))
 ·unfold partO part at h2 ⊢
  exact objs_set M.W _ j v _ _ h2 (fun o ho=>hj o (List.mem_append_right _ (by unfold partO part;exact ho)))
theorem storeM_W (M:Mem) (j:Nat) (v:Int):(storeM M j v).W=M.W.set j v:=by unfold storeM;split<;>rfl
theorem storeM_same (M:Mem) (j:Nat) (v:Int):(storeM M j v).half=M.half∧(storeM M j v).old=M.old∧(storeM M j v).card=M.card∧(storeM M j v).used=M.used∧(storeM M j v).top=M.top∧(storeM M j v).oldTop=M.oldTop∧(storeM M j v).roots=M.roots∧(storeM M j v).weak=M.weak∧(storeM M j v).ids=M.ids:=by
 unfold storeM;split<;>exact⟨rfl,rfl,rfl,rfl,rfl,rfl,rfl,rfl,rfl⟩
theorem storeM_cards (M:Mem) (j:Nat) (v:Int):More (storeM M j v).cards M:=by
 unfold storeM
 split
 ·exact⟨by unfold touchM setM;simp,fun i hi=>getD_set_true M.cards _ i hi⟩
 ·exact⟨rfl,fun _ h=>h⟩
theorem storeM_eq (M:Mem) (j:Nat) (v:Int):storeM M j v=withC (setM M j v) (storeM M j v).cards:=by
 unfold storeM;split<;>rfl
theorem flds_set {M:Mem} (j:Nat) (v:Int) (st:List Int) (y:Ob) (hf:fieldsB st (flds M y)=true) (hv:fldB st v=true) (hj:j<M.W.length):fieldsB st (flds (setM M j v) y)=true:=by
 unfold fieldsB at hf ⊢
 rw[List.all_eq_true] at hf ⊢
 intro z hz
 obtain⟨i,hi,rfl⟩:=List.mem_map.1 hz
 have e:(setM M j v).W=M.W.set j v:=rfl
 rw[e]
 by_cases h:y.a+1+i=j
 ·rw[h,wat_set_same _ _ _ hj];exact hv
 ·rw[wat_set _ _ _ _ h];exact hf _ (List.mem_map.2 ⟨i,hi,rfl⟩)
theorem store_chk {M:Mem} (hok:M.Ok) (h:chk M=0) {x:Ob} (hx:x∈objsAll M) (k:Nat) (hk:k<x.n) (v:Int) (hv:fldB (startsM M) v=true):chk (storeM M (x.a+1+k) v)=0:=by
 obtain⟨hg,hcm⟩:=chk_zero h
 obtain⟨hs,hob,hr,hw,hfo,hid⟩:=good_parts hg
 obtain⟨m1,m2,m3⟩:=mem_in hs hx
 have hj:x.a+1+k<M.W.length:=by omega
 have hap:∀ y∈objsAll M,y.a≠x.a+1+k:=fun y hy=>all_apart hs hx hy k hk
 obtain⟨pN,pO⟩:=partN_set hob (x.a+1+k) v hap
 have hold:oldB M ((x.a+1+k:Nat):Int)=oldB M (x.a:Int):=by
  have h1:=hs.h1;have h2:=hs.t2;have h5:=hs.base;have h7:=hs.t1
  unfold oldB
  rcases obM_of hx with g|g
  ·have a1:=g.to
   rw[decide_eq_false (by omega),decide_eq_false (by omega)]
  ·have a1:=g.lo
   rw[decide_eq_true (by omega),decide_eq_true (by omega)]
 have hmore:=storeM_cards M (x.a+1+k) v
 have hcard:oldB M ((x.a+1+k:Nat):Int)=true→youngB M v=true→cardB (storeM M (x.a+1+k) v) ((x.a+1+k:Nat):Int)=true:=fun h1 h2=>by
  have e:storeM M (x.a+1+k) v=touchM (setM M (x.a+1+k) v) ((x.a+1+k:Nat):Int):=by unfold storeM;rw[h1,h2];rfl
  have hin:2*M.half≤((x.a+1+k:Nat):Int):=of_decide_eq_true h1
  have:=hs.w
  obtain⟨i0,i1⟩:=hs.card ((x.a+1+k:Nat):Int) hin (by omega)
  rw[e]
  have hc:cardI (setM M (x.a+1+k) v) ((x.a+1+k:Nat):Int)<M.cards.length:=by unfold cardI;show ((((x.a+1+k:Nat):Int)-2*M.half)/M.card).toNat<_;omega
  show (M.cards.set (cardI (setM M (x.a+1+k) v) ((x.a+1+k:Nat):Int)) true).getD (cardI (setM M (x.a+1+k) v) ((x.a+1+k:Nat):Int)) false=true
  rw[List.getD_eq_getElem?_getD,List.getElem?_set_self hc];rfl
 have eW:=storeM_W M (x.a+1+k) v
 have eq:=storeM_eq M (x.a+1+k) v
 generalize storeM M (x.a+1+k) v=N at *
 have eA:objsAll N=objsAll M:=by
  rw[eq];show (partN (setM M (x.a+1+k) v)).1++(partO (setM M (x.a+1+k) v)).1=_
  rw[pN,pO];rfl
 have eS:startsM N=startsM M:=by unfold startsM;rw[eA]
 have eB:objsB N (okHd N)=true:=by
  rw[eq]
  show objsB (setM M (x.a+1+k) v) (okHd M)=true
  unfold objsB at hob ⊢
  rw[pN,pO];exact hob
 have eH:shapeB N=true:=by
  have e1:shapeB M=true:=by unfold goodB at hg;simp only[Bool.and_eq_true] at hg;exact hg.1.1.1.1.1
  rw[eq]
  unfold shapeB at e1 ⊢
  have l1:(withC (setM M (x.a+1+k) v) N.cards).W.length=M.W.length:=by unfold withC setM;simp
  have l2:(withC (setM M (x.a+1+k) v) N.cards).cards.length=M.cards.length:=hmore.1
  rw[l1,l2];exact e1
 have eF:(objsAll N).all (okFld N (startsM N))=true:=by
  rw[eA,eS,List.all_eq_true]
  rw[List.all_eq_true] at hfo
  intro y hy
  have h1:=hfo y hy
  unfold okFld at h1 ⊢
  cases hraw:rawB (hKind y.w) with
  | true=>rfl
  | false =>
   rw[hraw,Bool.false_or] at h1
   rw[Bool.false_or,eq]
   exact flds_set (x.a+1+k) v _ y h1 hv hj
 have eC:cardsM N=true:=by
  unfold cardsM at hcm ⊢
  rw[eA,List.all_eq_true]
  rw[List.all_eq_true] at hcm
  intro y hy
  have h1:=hcm y hy
  unfold cardsO at h1 ⊢
  cases hraw:rawB (hKind y.w) with
  | true=>rfl
  | false =>
   rw[hraw,Bool.false_or] at h1
   rw[Bool.false_or]
   unfold cardsK at h1 ⊢
   rw[List.all_eq_true] at h1 ⊢
   intro i hi
   have h2:=h1 i hi
   have o1:oldB N (y.a:Int)=oldB M (y.a:Int):=by rw[eq];rfl
   have y1:∀ z,youngB N z=youngB M z:=fun z=>by rw[eq];rfl
   unfold crd at h2 ⊢
   rw[o1,y1,eW]
   cases hq:(oldB M (y.a:Int)&&youngB M (wat (M.W.set (x.a+1+k) v) (y.a+1+i))) with
   | false=>rfl
   | true =>
    rw[Bool.and_eq_true] at hq
    by_cases hp:y.a+1+i=x.a+1+k
    ·have e2:((y.a:Int)+1+i)=((x.a+1+k:Nat):Int):=by omega
     rw[hp,wat_set_same _ _ _ hj] at hq
     have hyo:oldB M ((x.a+1+k:Nat):Int)=true:=by
      have:=of_decide_eq_true hq.1
      exact decide_eq_true (by omega)
     rw[e2,hcard hyo hq.2];rfl
    ·rw[wat_set _ _ _ _ hp] at hq
     rw[hq.1,hq.2] at h2
     have h3:cardB M ((y.a:Int)+1+i)=true:=by simpa using h2
     have h4:cardB N ((y.a:Int)+1+i)=true:=by
      unfold cardB at h3 ⊢
      have e5:(((y.a:Int)+1+i-2*N.half)/N.card).toNat=(((y.a:Int)+1+i-2*M.half)/M.card).toNat:=by rw[eq];rfl
      rw[e5];exact hmore.2 _ h3
     rw[h4];rfl
 have eR:N.roots=M.roots∧N.weak=M.weak∧N.ids=M.ids:=by rw[eq];exact⟨rfl,rfl,rfl⟩
 have eG:goodB N=true:=by
  unfold goodB
  rw[eH,eB,eF,eS,eR.1,eR.2.1,eR.2.2,hr,hw,hid];rfl
 unfold chk
 rw[eG,eC];rfl
structure LikeR (M N:Mem):Prop where
 half:N.half=M.half
 old:N.old=M.old
 card:N.card=M.card
 used:N.used=M.used
 top:N.top=M.top
 weak:N.weak=M.weak
 ids:N.ids=M.ids
 lenW:N.W.length=M.W.length
 lenC:N.cards.length=M.cards.length
theorem LikeR.refl (M:Mem):LikeR M M:=⟨rfl,rfl,rfl,rfl,rfl,rfl,rfl,rfl,rfl⟩
theorem LikeR.then_ {M N K:Mem} (h:LikeR M N) (k:N.Like K):LikeR M K :=
 ⟨k.half.trans h.half,k.old.trans h.old,k.card.trans h.card,k.used.trans h.used,k.top.trans h.top,k.weak.trans h.weak,k.ids.trans h.ids,k.lenW.trans h.lenW,k.lenC.trans h.lenC⟩
theorem LikeR.shp {M N:Mem} (h:LikeR M N) (hs:Shp M) (p:0≤N.oldTop∧N.oldTop≤N.old):Shp N :=
 ⟨by rw[h.half];exact hs.h1,by rw[h.half];exact hs.h2,by rw[h.old];exact hs.o1,by rw[h.old];exact hs.o2,by rw[h.card];exact hs.c1,by rw[h.card];exact hs.c2,by rw[h.lenW,h.half,h.old];exact hs.w,
  by rw[h.used];exact hs.u1,by rw[h.used];exact hs.u2,by rw[h.top];exact hs.t1,by rw[h.top,h.half];exact hs.t2,p.1,p.2,by rw[h.lenC,h.old,h.card];exact hs.cl⟩
theorem LikeR.stays {M N:Mem} (h:LikeR M N) (a:Int):stays N a=stays M a:=by unfold Go.Proofs.YtelhoppfidibiaaGreatDoor.stays youngB oldB;rw[h.half]
theorem LikeR.young {M N:Mem} (h:LikeR M N) (a:Int):youngB N a=youngB M a:=by unfold youngB oldB;rw[h.half]
structure Ready (M:Mem) (ten:Int):Prop where
 ok:M.Ok
 chk:chk M=0
 ten:0≤ten∧ten≤15
 room:M.top≤M.old-M.oldTop
def nbM (M:Mem):Nat:=((1-M.used)*M.half).toNat
def hbM (M:Mem):Nat:=(2*M.half).toNat
theorem Shp.nums {M:Mem} (hs:Shp M):∃ h:Nat,M.half=h∧hbM M=2*h∧((M.base=0∧nbM M=h∧M.used=0)∨(M.base=h∧nbM M=0∧M.used=1))∧1≤h∧h≤65536∧M.W.length=2*h+M.old.toNat∧M.top.toNat≤h∧M.oldTop.toNat≤M.old.toNat∧M.old.toNat≤65536∧(M.old.toNat:Int)=M.old∧(M.top.toNat:Int)=M.top∧(M.oldTop.toNat:Int)=M.oldTop:=by
 obtain⟨h1,h2,o1,o2,_,_,w,u1,u2,t1,t2,p1,p2,_⟩:=hs
 refine⟨M.half.toNat,by omega,by unfold hbM;omega,?_,by omega,by omega,by omega,by omega,by omega,by omega,by omega,by omega,by omega⟩
 have hu:M.used=0∨M.used=1:=by omega
 unfold nbM Mem.base
 rcases hu with e|e<;>rw[e]
 ·left;omega
 ·right;omega
section
variable {M0:Mem} {ten:Int}
theorem Ready.shp (h:Ready M0 ten):Shp M0:=(good_parts (chk_zero h.chk).1).1
theorem Ready.objs (h:Ready M0 ten):objsB M0 (okHd M0)=true:=(good_parts (chk_zero h.chk).1).2.1
theorem Ready.laidN (h:Ready M0 ten):Laid M0.W M0.base ((partN M0).1.map (·.a)) (M0.base+M0.top.toNat):=laid_of_part (parts_true h.objs).1 (by omega)
theorem Ready.laidO (h:Ready M0 ten):Laid M0.W (hbM M0) ((partO M0).1.map (·.a)) (hbM M0+M0.oldTop.toNat):=laid_of_part (parts_true h.objs).2 (by unfold hbM;omega)
theorem Ready.inN (h:Ready M0 ten) {x:Ob} (hx:x∈(partN M0).1):x.w=wat M0.W x.a∧isHd (wat M0.W x.a)=true∧M0.base≤x.a∧x.a+1+szW M0.W x.a≤M0.base+M0.top.toNat∧hMark (wat M0.W x.a)=0:=by
 have hi:=part_in (show x∈(part M0.W M0.base (M0.base+M0.top.toNat)).1 from hx)
 have ho:=h.objs
 simp only[objsB,Bool.and_eq_true,List.all_eq_true] at ho
 have hm:=ho.1.2 x hx
 simp only[okHd,Bool.and_eq_true,beq_iff_eq] at hm
 refine⟨hi.w,hi.w ▸ hi.hd,hi.lo,?_,by rw[←hi.w];exact hm.1⟩
 have:=hi.to
 unfold Ob.n at this
 unfold szW
 rw[←hi.w];exact this
theorem Ready.inO (h:Ready M0 ten) {x:Ob} (hx:x∈(partO M0).1):x.w=wat M0.W x.a∧isHd (wat M0.W x.a)=true∧hbM M0≤x.a∧x.a+1+szW M0.W x.a≤hbM M0+M0.oldTop.toNat∧hMark (wat M0.W x.a)=0∧hAge (wat M0.W x.a)=0:=by
 have hi:=part_in (show x∈(part M0.W (2*M0.half).toNat ((2*M0.half).toNat+M0.oldTop.toNat)).1 from hx)
 have ho:=h.objs
 simp only[objsB,Bool.and_eq_true,List.all_eq_true] at ho
 have hm:=ho.2.2 x hx
 have hlo:oldB M0 (x.a:Int)=true:=by
  unfold oldB
  have:=hi.lo
  exact decide_eq_true (by omega)
 simp only[okHd,Bool.and_eq_true,beq_iff_eq,hlo,Bool.not_true,Bool.or_false] at hm
 refine⟨hi.w,hi.w ▸ hi.hd,hi.lo,?_,by rw[←hi.w];exact hm.1,by rw[←hi.w];exact hm.2⟩
 have:=hi.to
 unfold Ob.n at this
 unfold szW hbM
 rw[←hi.w];exact this
end
def Img (M0:Mem) (mv:List (Int × Int)) (a b:Nat):Prop:=(a=b∧a∈(partO M0).1.map (·.a))∨((a:Int),(b:Int))∈mv
def Pend (C:Col) (R:Nat→Prop) (i:Nat):Prop:=R i∨∃ b∈C.todo,b.toNat+1≤i∧i<b.toNat+1+szW C.M.W b.toNat
def newHd (ten w:Int):Int:=headW (hKind w) (if ten≤hAge w then 0 else min 15 (hAge w+1)) (hMark w) (hSize w)
theorem newHd_hd {ten w:Int} (h0:0≤w) (h:isHd w=true):isHd (newHd ten w)=true∧hKind (newHd ten w)=hKind w∧hAge (newHd ten w)=(if ten≤hAge w then 0 else min 15 (hAge w+1))∧hMark (newHd ten w)=hMark w∧hSize (newHd ten w)=hSize w:=by
 obtain⟨k0,k1,a0,a1,m0,m1,z0⟩:=hd_in w h0
 have z1:=((isHd_iff w).1 h).2.2
 exact headW_hd _ _ _ _ ⟨k0,k1⟩ (by split<;>omega) ⟨m0,m1⟩ ⟨z0,z1⟩
def LNl (M0:Mem) (mv:List (Int × Int)):List Nat:=(mv.filter fun p=>decide (p.2<2*M0.half)).map fun p=>p.2.toNat
def LOl (M0:Mem) (mv:List (Int × Int)):List Nat:=(mv.filter fun p=>decide (2*M0.half≤p.2)).map fun p=>p.2.toNat
def LFl (M0:Mem) (mv:List (Int × Int)):List Int:=(mv.filter fun p=>!rawB (hKind (wat M0.W p.1.toNat))).map fun p=>p.2
structure Inv (M0:Mem) (ten:Int) (C:Col) (R:Nat→Prop) (cl:Bool) (D:List Int):Prop where
 like:LikeR M0 C.M
 ok:C.M.Ok
 tenE:C.ten=ten
 base:C.base=(nbM M0:Int)
 top0:0≤C.top
 oldT:M0.oldTop≤C.M.oldTop
 tot:C.top+(C.M.oldTop-M0.oldTop)=(((C.mv.map fun p=>1+szW M0.W p.1.toNat).sum:Nat):Int)
 src:∀ i,M0.base≤i→i<M0.base+M0.top.toNat→wat C.M.W i=wat M0.W i
 keys:∀ p∈C.mv,∃ x∈(partN M0).1,p.1=(x.a:Int)
 nodup:(C.mv.map fun p=>p.1.toNat).Nodup
 vals:∀ p∈C.mv,0≤p.2
 side:∀ p∈C.mv,(2*M0.half≤p.2↔ten≤hAge (wat M0.W p.1.toNat))
 head:∀ p∈C.mv,wat C.M.W p.2.toNat=newHd ten (wat M0.W p.1.toNat)
 layN:Laid C.M.W (nbM M0) (LNl M0 C.mv) (nbM M0+C.top.toNat)
 layO:Laid C.M.W (hbM M0+M0.oldTop.toNat) (LOl M0 C.mv) (hbM M0+C.M.oldTop.toNat)
 hdO:∀ x∈(partO M0).1,wat C.M.W x.a=wat M0.W x.a
 fld:∀ a b,Img M0 C.mv a b→∀ k,k<szW M0.W a →
  (rawB (hKind (wat M0.W a))=true→wat C.M.W (b+1+k)=wat M0.W (a+1+k)) ∧
  (rawB (hKind (wat M0.W a))=false→(Pend C R (b+1+k)→wat C.M.W (b+1+k)=wat M0.W (a+1+k))∧(¬Pend C R (b+1+k)→Fol M0 C.mv (wat M0.W (a+1+k)) (wat C.M.W (b+1+k))))
 crd:∀ a b,Img M0 C.mv a b→∀ k,k<szW M0.W a→rawB (hKind (wat M0.W a))=false→hbM M0≤b→¬Pend C R (b+1+k)→youngB M0 (wat C.M.W (b+1+k))=true→cl=true∧cardB C.M ((b+1+k:Nat):Int)=true
 todo:LFl M0 C.mv=D++C.todo
theorem nodup_map_inj {α β:Type} {f:α→β}:∀ {l:List α},(l.map f).Nodup→∀ {p q:α},p∈l→q∈l→f p=f q→p=q
 | [],_,p,q,hp,_,_=>by simp at hp
 | c::l,h,p,q,hp,hq,e=>by
  rw[List.map_cons,List.nodup_cons] at h
  rcases List.mem_cons.1 hp with e1|hp2
  ·rcases List.mem_cons.1 hq with e2|hq2
   ·rw[e1,e2]
   ·exact absurd (List.mem_map_of_mem (f:=f) hq2) (by rw[←e,e1];exact h.1)
  ·rcases List.mem_cons.1 hq with e2|hq2
   ·exact absurd (List.mem_map_of_mem (f:=f) hp2) (by rw[e,e2];exact h.1)
   ·exact nodup_map_inj h.2 hp2 hq2 e
section
variable {M0:Mem} {ten:Int} {C:Col} {R:Nat→Prop} {cl:Bool} {D:List Int}
theorem Inv.keyN (h:Inv M0 ten C R cl D) {a b:Nat} (hp:((a:Int),(b:Int))∈C.mv):∃ x∈(partN M0).1,x.a=a:=by
 obtain⟨x,hx,e⟩:=h.keys _ hp
 exact⟨x,hx,by simp only at e;omega⟩
theorem Inv.nodupI (h:Inv M0 ten C R cl D):(C.mv.map (·.1)).Nodup:=by
 have hn:=h.nodup
 unfold List.Nodup at hn ⊢
 rw[List.pairwise_map] at hn ⊢
 exact hn.imp fun hab e=>hab (by rw[e])
theorem Inv.olds (h:Inv M0 ten C R cl D) (hr:Ready M0 ten):Laid C.M.W (hbM M0) ((partO M0).1.map (·.a)++LOl M0 C.mv) (hbM M0+C.M.oldTop.toNat) :=
 (hr.laidO.congr fun b hb=>by
  obtain⟨x,hx,rfl⟩:=List.mem_map.1 hb
  exact h.hdO x hx).app h.layO
theorem Inv.hd (h:Inv M0 ten C R cl D) (hr:Ready M0 ten) {a b:Nat} (hi:Img M0 C.mv a b):isHd (wat M0.W a)=true∧isHd (wat C.M.W b)=true∧hKind (wat C.M.W b)=hKind (wat M0.W a)∧szW C.M.W b=szW M0.W a∧hMark (wat C.M.W b)=0:=by
 rcases hi with⟨rfl,hm⟩|hm
 ·obtain⟨x,hx,rfl⟩:=List.mem_map.1 hm
  obtain⟨q1,q2,_,_,q5,_⟩:=hr.inO hx
  have e:=h.hdO x hx
  refine⟨q2,by rw[e];exact q2,by rw[e],by unfold szW;rw[e],by rw[e];exact q5⟩
 ·obtain⟨x,hx,rfl⟩:=h.keyN hm
  obtain⟨q1,q2,_,_,q5⟩:=hr.inN hx
  have e:=h.head _ hm
  simp only[Int.toNat_natCast] at e
  obtain⟨r1,r2,_,r4,r5⟩:=newHd_hd (ten:=ten) (wat_in hr.ok x.a).1 q2
  exact⟨q2,by rw[e];exact r1,by rw[e];exact r2,by unfold szW;rw[e,r5],by rw[e,r4];exact q5⟩
theorem Inv.side_ (h:Inv M0 ten C R cl D) {a b:Nat} (hm:((a:Int),(b:Int))∈C.mv):(b∈LNl M0 C.mv∧(b:Int)<2*M0.half)∨(b∈LOl M0 C.mv∧2*M0.half≤(b:Int)):=by
 by_cases q:(b:Int)<2*M0.half
 ·exact Or.inl ⟨List.mem_map.2 ⟨_,List.mem_filter.2 ⟨hm,decide_eq_true q⟩,by simp⟩,q⟩
 ·exact Or.inr ⟨List.mem_map.2 ⟨_,List.mem_filter.2 ⟨hm,decide_eq_true (by simp only;omega)⟩,by simp⟩,by omega⟩
theorem Inv.place (h:Inv M0 ten C R cl D) (hr:Ready M0 ten) {a b:Nat} (hi:Img M0 C.mv a b) :
  (b∈LNl M0 C.mv∧nbM M0≤b∧b+1+szW M0.W a≤nbM M0+C.top.toNat∧b<hbM M0)∨(b∈(partO M0).1.map (·.a)++LOl M0 C.mv∧hbM M0≤b∧b+1+szW M0.W a≤hbM M0+C.M.oldTop.toNat):=by
 have hz:=(h.hd hr hi).2.2.2.1
 rcases hi with⟨rfl,hm⟩|hm
 ·right
  have:=(h.olds hr).mem a (List.mem_append.2 (Or.inl hm))
  exact⟨List.mem_append.2 (Or.inl hm),this.1,by omega⟩
 ·rcases h.side_ hm with⟨q1,q2⟩|⟨q1,q2⟩
  ·left
   have:=h.layN.mem b q1
   exact⟨q1,this.1,by omega,by unfold hbM;omega⟩
  ·right
   have:=(h.olds hr).mem b (List.mem_append.2 (Or.inr q1))
   exact⟨List.mem_append.2 (Or.inr q1),this.1,by omega⟩
theorem Inv.totle (h:Inv M0 ten C R cl D) (hr:Ready M0 ten):C.top+(C.M.oldTop-M0.oldTop)≤M0.top∧C.mv.length≤M0.top.toNat:=by
 have h1:=h.tot
 have h2:=sum_sub (fun b=>1+szW M0.W b) (C.mv.map fun p=>p.1.toNat) ((partN M0).1.map (·.a)) h.nodup (fun k hk=>by
  obtain⟨p,hp,rfl⟩:=List.mem_map.1 hk
  obtain⟨x,hx,e⟩:=h.keys p hp
  rw[e];exact List.mem_map.2 ⟨x,hx,by simp⟩)
 have h3:=hr.laidN.sum
 have h4:C.mv.length≤(C.mv.map fun p=>1+szW M0.W p.1.toNat).sum:=by
  generalize C.mv=l
  induction l with
  | nil=>simp
  | cons p l ih=>rw[List.length_cons,List.map_cons,List.sum_cons];omega
 have ht:=hr.shp.t1
 rw[List.map_map] at h2
 have e:(C.mv.map ((fun b=>1+szW M0.W b)∘fun p=>p.1.toNat))=C.mv.map fun p=>1+szW M0.W p.1.toNat:=rfl
 rw[e] at h2
 omega
theorem Inv.room (h:Inv M0 ten C R cl D) (hr:Ready M0 ten) {x:Ob} (hx:x∈(partN M0).1) (hn:mlook C.mv (x.a:Int)=none):C.top+(C.M.oldTop-M0.oldTop)+1+szW M0.W x.a≤M0.top:=by
 have h1:=h.tot
 have hnot:x.a∉C.mv.map fun p=>p.1.toNat:=fun hm=>by
  obtain⟨p,hp,e⟩:=List.mem_map.1 hm
  obtain⟨y,hy,e2⟩:=h.keys p hp
  exact mlook_none hn p hp (by omega)
 have h2:=sum_sub (fun b=>1+szW M0.W b) (x.a::C.mv.map fun p=>p.1.toNat) ((partN M0).1.map (·.a)) (List.nodup_cons.2 ⟨hnot,h.nodup⟩) (fun k hk=>by
  rcases List.mem_cons.1 hk with rfl|hk
  ·exact List.mem_map_of_mem (f:=(·.a)) hx
  ·obtain⟨p,hp,rfl⟩:=List.mem_map.1 hk
   obtain⟨y,hy,e⟩:=h.keys p hp
   rw[e];exact List.mem_map.2 ⟨y,hy,by simp⟩)
 have h3:=hr.laidN.sum
 have ht:=hr.shp.t1
 rw[List.map_cons,List.sum_cons,List.map_map] at h2
 have e:(C.mv.map ((fun b=>1+szW M0.W b)∘fun p=>p.1.toNat))=C.mv.map fun p=>1+szW M0.W p.1.toNat:=rfl
 rw[e] at h2
 omega
theorem Inv.apart (h:Inv M0 ten C R cl D) (hr:Ready M0 ten) {a b a' b':Nat} (hi:Img M0 C.mv a b) (hi':Img M0 C.mv a' b') (hn:b≠b'):b+1+szW M0.W a≤b'∨b'+1+szW M0.W a'≤b:=by
 have z1:=(h.hd hr hi).2.2.2.1
 have z2:=(h.hd hr hi').2.2.2.1
 obtain⟨hh,e1,e2,e3,e4,e5,e6,e7,e8,e9,e10,e11,e12⟩:=hr.shp.nums
 have ht:=h.totle hr
 have h0:=h.top0
 have hoT:=h.oldT
 rcases h.place hr hi with⟨p1,p2,p3,p4⟩|⟨p1,p2,p3⟩<;>rcases h.place hr hi' with⟨q1,q2,q3,q4⟩|⟨q1,q2,q3⟩
 ·have:=h.layN.apart p1 q1 hn;omega
 ·left;omega
 ·right;omega
 ·have:=(h.olds hr).apart p1 q1 hn;omega
theorem Inv.inj (h:Inv M0 ten C R cl D) (hr:Ready M0 ten) {a a' b:Nat} (hi:Img M0 C.mv a b) (hi':Img M0 C.mv a' b):a=a':=by
 have hon:=(h.olds hr).nodup
 rw[List.nodup_append] at hon
 have key:∀ {a b:Nat},a=b∧a∈(partO M0).1.map (·.a)→((a':Int),(b:Int))∈C.mv→False:=fun {a b} h1 h2=>by
  obtain⟨rfl,hm⟩:=h1
  obtain⟨x,hx,rfl⟩:=List.mem_map.1 hm
  have q:=(hr.inO hx).2.2.1
  rcases h.side_ h2 with⟨r1,r2⟩|⟨r1,r2⟩
  ·unfold hbM at q;omega
  ·exact hon.2.2 _ hm _ r1 rfl
 rcases hi with hi|hi<;>rcases hi' with hi'|hi'
 ·rw[hi.1,hi'.1]
 ·exact (key hi hi').elim
 ·obtain⟨rfl,hm⟩:=hi'
  obtain⟨x,hx,rfl⟩:=List.mem_map.1 hm
  have q:=(hr.inO hx).2.2.1
  rcases h.side_ hi with⟨r1,r2⟩|⟨r1,r2⟩
  ·unfold hbM at q;omega
  ·exact (hon.2.2 _ hm _ r1 rfl).elim
 ·have hp:∀ (f:Int × Int→Bool),f ((a:Int),(b:Int))=true→f ((a':Int),(b:Int))=true→((C.mv.filter f).map fun p=>p.2.toNat).Nodup→a=a':=fun f f1 f2 hnn=>by
   have:=nodup_map_inj hnn (List.mem_filter.2 ⟨hi,f1⟩) (List.mem_filter.2 ⟨hi',f2⟩) rfl
   injection this with e1 e2
   omega
  by_cases q:(b:Int)<2*M0.half
  ·exact hp _ (decide_eq_true q) (decide_eq_true q) h.layN.nodup
  ·exact hp _ (decide_eq_true (by simp only;omega)) (decide_eq_true (by simp only;omega)) h.layO.nodup
end
end Go.Proofs.YtelhoppfidibiaaGreatDoor
