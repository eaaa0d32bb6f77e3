/- The minor collector's invariant: a word is followed: plainly. -/
import Derived.Test.YtelhoppfidibiaaGreatDoorJTa15
import Derived.Test.YtelhoppfidibiaaGreatDoorJTa13
set_option linter.unusedSimpArgs false
set_option linter.unusedVariables false
set_option maxHeartbeats 1000000
namespace Go.Proofs.YtelhoppfidibiaaGreatDoor
open Go.RowKit
theorem wat_splice (W cs:List Int) (off i:Nat) (h:off+cs.length≤W.length):wat (splice W off cs) i=if off≤i∧i<off+cs.length then cs.getD (i-off) 0 else wat W i:=by
 unfold wat splice
 simp only[List.getD_eq_getElem?_getD]
 have hl:(W.take off).length=off:=by rw[List.length_take];omega
 by_cases h1:i<off
 ·rw[if_neg (by omega),List.getElem?_append_left (by omega),List.getElem?_take,if_pos h1]
 ·rw[List.getElem?_append_right (by omega),hl]
  by_cases h2:i<off+cs.length
  ·rw[if_pos ⟨by omega,h2⟩,List.getElem?_append_left (by omega)]
  ·rw[if_neg (by omega),List.getElem?_append_right (by omega),List.getElem?_drop]
   congr 2;omega
theorem wat_cut (W:List Int) (a n k:Nat) (hk:k<n):((W.drop a).take n).getD k 0=wat W (a+k):=by
 unfold wat
 simp only[List.getD_eq_getElem?_getD]
 rw[List.getElem?_take,if_pos hk,List.getElem?_drop]
section
variable {C:Col} {j:Nat}
theorem moveC_top:(moveC C j).top=if C.ten≤hAge (wat C.M.W j) then C.top else C.top+(1+hSize (wat C.M.W j)):=rfl
theorem moveC_oldTop:(moveC C j).M.oldTop=if C.ten≤hAge (wat C.M.W j) then C.M.oldTop+(1+hSize (wat C.M.W j)) else C.M.oldTop:=rfl
theorem moveC_mv:(moveC C j).mv=C.mv++[((j:Int),moveTo C j)]:=rfl
theorem moveC_todo:(moveC C j).todo=if rawB (hKind (wat C.M.W j)) then C.todo else C.todo++[moveTo C j]:=rfl
theorem moveC_W:(moveC C j).M.W=(splice C.M.W ((moveTo C j).toNat+1) ((C.M.W.drop (j+1)).take (hSize (wat C.M.W j)).toNat)).set (moveTo C j).toNat (moveHead C j):=rfl
theorem moveC_wat (hc:CanMove C j) (to:Nat) (hto:moveTo C j=(to:Int)) :
  wat (moveC C j).M.W to=newHd C.ten (wat C.M.W j)∧(∀ k,k<szW C.M.W j→wat (moveC C j).M.W (to+1+k)=wat C.M.W (j+1+k))∧(∀ i,i<to∨to+1+szW C.M.W j≤i→wat (moveC C j).M.W i=wat C.M.W i):=by
 have hw:=wat_in hc.ok j
 have z0:=(hd_in (wat C.M.W j) hw.1).2.2.2.2.2.2
 have hd:=hc.dst
 have hs:=hc.src
 rw[hto] at hd
 have hz:(szW C.M.W j:Int)=hSize (wat C.M.W j):=by unfold szW;omega
 have hl:((C.M.W.drop (j+1)).take (hSize (wat C.M.W j)).toNat).length=szW C.M.W j:=by rw[List.length_take,List.length_drop];unfold szW at hz ⊢;omega
 have hsp:=fun i=>wat_splice C.M.W ((C.M.W.drop (j+1)).take (hSize (wat C.M.W j)).toNat) (to+1) i (by rw[hl];omega)
 rw[hl] at hsp
 have hlen:(splice C.M.W (to+1) ((C.M.W.drop (j+1)).take (hSize (wat C.M.W j)).toNat)).length=C.M.W.length:=by rw[length_splice];rw[hl];omega
 rw[moveC_W,hto,Int.toNat_natCast]
 refine⟨?_,fun k hk=>?_,fun i hi=>?_⟩
 ·rw[wat_set_same _ _ _ (by rw[hlen];omega)];rfl
 ·rw[wat_set _ _ _ _ (by omega),hsp,if_pos ⟨by omega,by omega⟩,show to+1+k-(to+1)=k by omega];exact wat_cut _ _ _ _ hk
 ·rw[wat_set _ _ _ _ (by omega),hsp,if_neg (by omega)]
end
section
variable {M0:Mem} {ten:Int} {C:Col} {R:Nat→Prop} {cl:Bool} {D:List Int}
theorem Inv.shp (h:Inv M0 ten C R cl D) (hr:Ready M0 ten):Shp C.M:=by
 have h1:=h.totle hr
 have h2:=h.top0
 have h3:=h.oldT
 have h4:=hr.shp.p1
 have h5:=hr.room
 exact h.like.shp hr.shp ⟨by omega,by rw[h.like.old];omega⟩
theorem Inv.todo_img (h:Inv M0 ten C R cl D) {b:Int} (hb:b∈D++C.todo):∃ a:Nat,((a:Int),b)∈C.mv∧0≤b∧rawB (hKind (wat M0.W a))=false:=by
 rw[←h.todo] at hb
 obtain⟨p,hp,rfl⟩:=List.mem_map.1 hb
 obtain⟨hp1,hp2⟩:=List.mem_filter.1 hp
 obtain⟨x,hx,e⟩:=h.keys p hp1
 refine⟨x.a,by rw[←e];exact hp1,h.vals p hp1,?_⟩
 rw[e,Int.toNat_natCast] at hp2
 simpa using hp2
theorem Inv.todo_len (h:Inv M0 ten C R cl D) (hr:Ready M0 ten):C.todo.length+D.length≤M0.top.toNat:=by
 have h1:=(h.totle hr).2
 have h2:(LFl M0 C.mv).length≤C.mv.length:=by unfold LFl;rw[List.length_map];exact List.length_filter_le _ _
 rw[h.todo,List.length_append] at h2
 omega
theorem move_can (h:Inv M0 ten C R cl D) (hr:Ready M0 ten) {x:Ob} (hx:x∈(partN M0).1) (hn:mlook C.mv (x.a:Int)=none):CanMove C x.a:=by
 obtain⟨hh,e1,e2,e3,e4,e5,e6,e7,e8,e9,e10,e11,e12⟩:=hr.shp.nums
 obtain⟨i1,i2,i3,i4,i5⟩:=hr.inN hx
 have e0:wat C.M.W x.a=wat M0.W x.a:=h.src _ i3 (by omega)
 have hroom:=h.room hr hx hn
 have h0:=h.top0
 have hoT:=h.oldT
 have hz0:=(hd_in (wat M0.W x.a) (wat_in hr.ok x.a).1).2.2.2.2.2.2
 have hz:(szW M0.W x.a:Int)=hSize (wat M0.W x.a):=by unfold szW;omega
 have hro:=hr.room
 have hlW:=h.like.lenW
 have hb:=h.base
 have hlh:=h.like.half
 have htl:=h.todo_len hr
 refine⟨h.shp hr,h.ok,by rw[h.tenE];exact hr.ten,by omega,by omega,by rw[e0];exact i2,by rw[e0];omega,?_,hn,by omega⟩
 unfold moveTo
 rw[e0,hlh]
 split<;>omega
theorem move_inv (h:Inv M0 ten C R cl D) (hr:Ready M0 ten) {x:Ob} (hx:x∈(partN M0).1) (hn:mlook C.mv (x.a:Int)=none):Inv M0 ten (moveC C x.a) R cl D:=by
 have hcm:=move_can h hr hx hn
 obtain⟨hh,e1,e2,e3,e4,e5,e6,e7,e8,e9,e10,e11,e12⟩:=hr.shp.nums
 obtain⟨i1,i2,i3,i4,i5⟩:=hr.inN hx
 have e0:wat C.M.W x.a=wat M0.W x.a:=h.src _ i3 (by omega)
 have hroom:=h.room hr hx hn
 have h0:=h.top0
 have hoT:=h.oldT
 have hz0:=(hd_in (wat M0.W x.a) (wat_in hr.ok x.a).1).2.2.2.2.2.2
 have hz:(szW M0.W x.a:Int)=hSize (wat M0.W x.a):=by unfold szW;omega
 have hsz:szW C.M.W x.a=szW M0.W x.a:=by unfold szW;rw[e0]
 have hro:=hr.room
 have hb:=h.base
 have hlh:=h.like.half
 have hd:=hcm.dst
 obtain⟨to,hto⟩:∃ to:Nat,moveTo C x.a=(to:Int):=⟨(moveTo C x.a).toNat,by omega⟩
 obtain⟨f1,f2,f3⟩:=moveC_wat hcm to hto
 rw[hsz] at f2 f3
 rw[e0,h.tenE] at f1
 have side:(ten≤hAge (wat M0.W x.a)∧to=hbM M0+C.M.oldTop.toNat)∨(¬ten≤hAge (wat M0.W x.a)∧to=nbM M0+C.top.toNat):=by
  unfold moveTo at hto
  rw[e0,h.tenE,hlh,hb] at hto
  by_cases q:ten≤hAge (wat M0.W x.a)
  ·rw[if_pos q] at hto;left;exact⟨q,by omega⟩
  ·rw[if_neg q] at hto;right;exact⟨q,by omega⟩
 have out:∀ a b,Img M0 C.mv a b→b+1+szW M0.W a≤to∨to+1+szW M0.W x.a≤b:=fun a b hi=>by
  rcases h.place hr hi with⟨p1,p2,p3,p4⟩|⟨p1,p2,p3⟩<;>rcases side with⟨s1,s2⟩|⟨s1,s2⟩
  ·left;omega
  ·left;omega
  ·left;omega
  ·right;omega
 have same:∀ a b,Img M0 C.mv a b→∀ k,k≤szW M0.W a→wat (moveC C x.a).M.W (b+k)=wat C.M.W (b+k):=fun a b hi k hk=>f3 _ (by rcases out a b hi with q|q<;>omega)
 have imgs:∀ a b,Img M0 (moveC C x.a).mv a b→Img M0 C.mv a b∨(a=x.a∧b=to):=fun a b hi=>by
  rw[moveC_mv,hto] at hi
  rcases hi with hi|hi
  ·exact Or.inl (Or.inl hi)
  ·rcases List.mem_append.1 hi with hi|hi
   ·exact Or.inl (Or.inr hi)
   ·right
    rw[List.mem_singleton] at hi
    injection hi with q1 q2
    omega
 have hraw:hKind (wat C.M.W x.a)=hKind (wat M0.W x.a):=by rw[e0]
 have tsz:∀ b∈C.todo,szW (moveC C x.a).M.W b.toNat=szW C.M.W b.toNat∧∃ a,Img M0 C.mv a b.toNat∧szW C.M.W b.toNat=szW M0.W a:=fun b hb'=>by
  obtain⟨a,ha,hb0,_⟩:=h.todo_img (List.mem_append.2 (Or.inr hb'))
  have hi:Img M0 C.mv a b.toNat:=Or.inr (by rw[Int.toNat_of_nonneg hb0];exact ha)
  have:=same a b.toNat hi 0 (by omega)
  rw[Nat.add_zero] at this
  exact⟨by unfold szW;rw[this],a,hi,(h.hd hr hi).2.2.2.1⟩
 have szto:szW (moveC C x.a).M.W to=szW M0.W x.a:=by
  unfold szW;rw[f1,(newHd_hd (ten:=ten) (wat_in hr.ok x.a).1 i2).2.2.2.2]
 have pend_old:∀ a b,Img M0 C.mv a b→∀ k,k<szW M0.W a→(Pend (moveC C x.a) R (b+1+k)↔Pend C R (b+1+k)):=fun a b hi k hk=>by
  unfold Pend
  rw[moveC_todo,hraw,hto]
  constructor
  ·rintro (q|⟨c,hc,q1,q2⟩)
   ·exact Or.inl q
   ·have:c∈C.todo∨c=(to:Int):=by
     cases hq:rawB (hKind (wat M0.W x.a)) with
     | true=>rw[hq] at hc;exact Or.inl hc
     | false =>
      rw[hq] at hc
      rcases List.mem_append.1 hc with hc|hc
      ·exact Or.inl hc
      ·exact Or.inr (List.mem_singleton.1 hc)
    rcases this with hc|rfl
    ·rw[(tsz c hc).1] at q2
     exact Or.inr ⟨c,hc,q1,q2⟩
    ·rw[Int.toNat_natCast] at q1 q2
     rw[szto] at q2
     rcases out a b hi with r|r<;>omega
  ·rintro (q|⟨c,hc,q1,q2⟩)
   ·exact Or.inl q
   ·refine Or.inr ⟨c,?_,q1,by rw[(tsz c hc).1];exact q2⟩
    cases hq:rawB (hKind (wat M0.W x.a)) with
    | true=>exact hc
    | false=>exact List.mem_append.2 (Or.inl hc)
 have pend_new:rawB (hKind (wat M0.W x.a))=false→∀ k,k<szW M0.W x.a→Pend (moveC C x.a) R (to+1+k):=fun hq k hk=>by
  refine Or.inr ⟨(to:Int),?_,by omega,by rw[Int.toNat_natCast,szto];omega⟩
  rw[moveC_todo,hraw,hq,hto]
  exact List.mem_append.2 (Or.inr (List.mem_singleton.2 rfl))
 have htop:(moveC C x.a).top=if ten≤hAge (wat M0.W x.a) then C.top else C.top+(1+szW M0.W x.a):=by rw[moveC_top,e0,h.tenE,hz]
 have hold:(moveC C x.a).M.oldTop=if ten≤hAge (wat M0.W x.a) then C.M.oldTop+(1+szW M0.W x.a) else C.M.oldTop:=by rw[moveC_oldTop,e0,h.tenE,hz]
 have hside:2*M0.half≤(to:Int)↔ten≤hAge (wat M0.W x.a):=by
  rcases side with⟨s1,s2⟩|⟨s1,s2⟩
  ·exact⟨fun _=>s1,fun _=>by omega⟩
  ·exact⟨fun _=>by omega,fun q=>absurd q s1⟩
 have valN:∀ b∈LNl M0 C.mv,wat (moveC C x.a).M.W b=wat C.M.W b:=fun b hb'=>by
  obtain⟨p,hp,rfl⟩:=List.mem_map.1 hb'
  obtain⟨hp1,hp2⟩:=List.mem_filter.1 hp
  have:=h.vals p hp1
  have h3:=h.layN.mem _ hb'
  exact f3 _ (by rcases side with⟨s1,s2⟩|⟨s1,s2⟩<;>omega)
 have valO:∀ b∈LOl M0 C.mv,wat (moveC C x.a).M.W b=wat C.M.W b:=fun b hb'=>by
  have h3:=h.layO.mem _ hb'
  exact f3 _ (by rcases side with⟨s1,s2⟩|⟨s1,s2⟩<;>omega)
 refine⟨h.like.then_ (moveC_like hcm),moveC_ok hcm,h.tenE,h.base,?_,?_,?_,?_,?_,?_,?_,?_,?_,?_,?_,?_,?_,?_,?_⟩
 ·rw[htop];split<;>omega
 ·rw[hold];split<;>omega
 ·rw[htop,hold,moveC_mv,List.map_append,List.sum_append]
  have:=h.tot
  simp only[List.map_cons,List.map_nil,List.sum_cons,List.sum_nil,Int.toNat_natCast]
  split<;>omega
 ·intro i q1 q2
  rw[f3 i (by rcases side with⟨s1,s2⟩|⟨s1,s2⟩<;>rcases e3 with⟨u1,u2,u3⟩|⟨u1,u2,u3⟩<;>omega)]
  exact h.src i q1 q2
 ·intro p hp
  rw[moveC_mv] at hp
  rcases List.mem_append.1 hp with hp|hp
  ·exact h.keys p hp
  ·rw[List.mem_singleton.1 hp];exact⟨x,hx,rfl⟩
 ·rw[moveC_mv,List.map_append,List.nodup_append]
  refine⟨h.nodup,by simp,fun a ha b hb' e=>?_⟩
  simp only[List.map_cons,List.map_nil,Int.toNat_natCast,List.mem_singleton] at hb'
  obtain⟨p,hp,e2⟩:=List.mem_map.1 ha
  obtain⟨y,hy,e3⟩:=h.keys p hp
  exact mlook_none hn p hp (by omega)
 ·intro p hp
  rw[moveC_mv] at hp
  rcases List.mem_append.1 hp with hp|hp
  ·exact h.vals p hp
  ·rw[List.mem_singleton.1 hp];exact hd.1
 ·intro p hp
  rw[moveC_mv,hto] at hp
  rcases List.mem_append.1 hp with hp|hp
  ·exact h.side p hp
  ·rw[List.mem_singleton.1 hp,Int.toNat_natCast];exact hside
 ·intro p hp
  rw[moveC_mv,hto] at hp
  rcases List.mem_append.1 hp with hp|hp
  ·have hi:Img M0 C.mv p.1.toNat p.2.toNat:=Or.inr (by
    obtain⟨y,hy,e⟩:=h.keys p hp
    rw[Int.toNat_of_nonneg (by omega),Int.toNat_of_nonneg (h.vals p hp)];exact hp)
   have:=same _ _ hi 0 (by omega)
   rw[Nat.add_zero] at this
   rw[this];exact h.head p hp
  ·rw[List.mem_singleton.1 hp,Int.toNat_natCast,Int.toNat_natCast];exact f1
 ·have hl:=h.layN.congr valN
  unfold LNl at hl ⊢
  rw[moveC_mv,hto,List.filter_append,List.map_append]
  rcases side with⟨s1,s2⟩|⟨s1,s2⟩
  ·have:(List.filter (fun p:Int × Int=>decide (p.2<2*M0.half)) [((x.a:Int),(to:Int))])=[]:=by
    rw[List.filter_cons,if_neg (by simp;omega),List.filter_nil]
   rw[this,htop,if_pos s1,List.map_nil,List.append_nil];exact hl
  ·have:(List.filter (fun p:Int × Int=>decide (p.2<2*M0.half)) [((x.a:Int),(to:Int))])=[((x.a:Int),(to:Int))]:=by
    rw[List.filter_cons,if_pos (by simp;omega),List.filter_nil]
   rw[this,htop,if_neg s1]
   refine hl.app ⟨by simpa using s2,?_,?_⟩
   ·rw[←s2,f1];exact (newHd_hd (wat_in hr.ok x.a).1 i2).1
   ·show nbM M0+C.top.toNat+1+szW (moveC C x.a).M.W (nbM M0+C.top.toNat)=_
    rw[←s2,szto];omega
 ·have hl:=h.layO.congr valO
  unfold LOl at hl ⊢
  rw[moveC_mv,hto,List.filter_append,List.map_append]
  rcases side with⟨s1,s2⟩|⟨s1,s2⟩
  ·have:(List.filter (fun p:Int × Int=>decide (2*M0.half≤p.2)) [((x.a:Int),(to:Int))])=[((x.a:Int),(to:Int))]:=by
    rw[List.filter_cons,if_pos (by simp;omega),List.filter_nil]
   rw[this,hold,if_pos s1]
   refine hl.app ⟨by simpa using s2,?_,?_⟩
   ·rw[←s2,f1];exact (newHd_hd (wat_in hr.ok x.a).1 i2).1
   ·show hbM M0+C.M.oldTop.toNat+1+szW (moveC C x.a).M.W (hbM M0+C.M.oldTop.toNat)=_
    rw[←s2,szto];omega
  ·have:(List.filter (fun p:Int × Int=>decide (2*M0.half≤p.2)) [((x.a:Int),(to:Int))])=[]:=by
    rw[List.filter_cons,if_neg (by simp;omega),List.filter_nil]
   rw[this,hold,if_neg s1,List.map_nil,List.append_nil];exact hl
 ·intro y hy
  obtain⟨r1,r2,r3,r4,r5,r6⟩:=hr.inO hy
  rw[f3 _ (by rcases side with⟨s1,s2⟩|⟨s1,s2⟩<;>omega)]
  exact h.hdO y hy
 ·intro a b hi k hk
  rcases imgs a b hi with hi'|⟨rfl,rfl⟩
  ·obtain⟨q1,q2⟩:=h.fld a b hi' k hk
   have hs:=same a b hi' (1+k) (by omega)
   rw[←Nat.add_assoc] at hs
   rw[hs,pend_old a b hi' k hk]
   exact⟨q1,fun hq=>⟨(q2 hq).1,fun hp=>((q2 hq).2 hp).app _⟩⟩
  ·have hs:=(f2 k hk).trans (h.src _ (by omega) (by omega))
   rw[hs]
   exact⟨fun _=>rfl,fun hq=>⟨fun _=>rfl,fun hp=>absurd (pend_new hq k hk) hp⟩⟩
 ·intro a b hi k hk hq hb' hp hy
  rcases imgs a b hi with hi'|⟨rfl,rfl⟩
  ·have hs:=same a b hi' (1+k) (by omega)
   rw[←Nat.add_assoc] at hs
   rw[pend_old a b hi' k hk] at hp
   rw[hs] at hy
   exact h.crd a b hi' k hk hq hb' hp hy
  ·exact absurd (pend_new hq k hk) hp
 ·have:=h.todo
  unfold LFl at this ⊢
  rw[moveC_mv,moveC_todo,hraw,hto,List.filter_append,List.map_append,this]
  cases hq:rawB (hKind (wat M0.W x.a)) with
  | true=>simp[hq]
  | false=>simp[hq]
theorem follow_inv (h:Inv M0 ten C R cl D) (hr:Ready M0 ten) {u:Int} (hf:fldB (startsM M0) u=true) :
  CanFollow C u∧Inv M0 ten (followC C u).2 R cl D∧Fol M0 (followC C u).2.mv u (followC C u).1∧(followC C u).2.M.roots=C.M.roots∧(followC C u).2.M.cards=C.M.cards∧(∀ p∈C.mv,p∈(followC C u).2.mv)∧((followC C u).2.todo=C.todo∨∃ t,(followC C u).2.todo=C.todo++[t]∧∀ p∈C.mv,p.2≠t):=by
 have hst:=h.like.stays u
 cases hs:stays M0 u with
 | true =>
  have hs':=hst.trans hs
  have e:followC C u=(u,C):=by unfold followC;rw[hs'];rfl
  rw[e]
  exact⟨fun q=>(by rw[hs'] at q;cases q),h,Or.inl ⟨hs,rfl⟩,rfl,rfl,fun p hp=>hp,Or.inl rfl⟩
 | false =>
  have hs':=hst.trans hs
  have hy:youngB M0 u=true:=by unfold stays at hs;simpa using hs
  unfold youngB at hy
  simp only[Bool.and_eq_true,beq_iff_eq,bne_iff_ne] at hy
  obtain⟨⟨hk,hu⟩,ho⟩:=hy
  have hin:placeW u∈startsM M0:=by
   unfold fldB at hf
   rw[if_pos hk] at hf
   simp only[Bool.or_eq_true,beq_iff_eq] at hf
   rcases hf with q|q
   ·exact absurd q hu
   ·exact List.contains_iff_mem.1 q
  obtain⟨x,hx,hxe⟩:=List.mem_map.1 hin
  have hxN:x∈(partN M0).1:=by
   unfold objsAll at hx
   rcases List.mem_append.1 hx with q|q
   ·exact q
   ·have:=(hr.inO q).2.2.1
    unfold oldB at ho
    simp only[Bool.not_eq_true',decide_eq_false_iff_not] at ho
    unfold hbM at this
    omega
  cases hl:mlook C.mv (placeW u) with
  | some to =>
   have e:followC C u=(addrW to,C):=by unfold followC;rw[hs',hl];rfl
   rw[e]
   exact⟨fun _ q=>(by rw[hl] at q;cases q),h,Or.inr ⟨hs,to,hl,rfl⟩,rfl,rfl,fun p hp=>hp,Or.inl rfl⟩
  | none =>
   have e:followC C u=(addrW (moveTo C x.a),moveC C x.a):=by
    unfold followC;rw[hs',hl,←hxe,Int.toNat_natCast];rfl
   rw[e]
   have hl':=hl
   rw[←hxe] at hl'
   have hcm:=move_can h hr hxN hl'
   have hi':=move_inv h hr hxN hl'
   refine⟨fun _ _=>?_,hi',Or.inr ⟨hs,moveTo C x.a,?_,rfl⟩,rfl,rfl,fun p hp=>?_,?_⟩
   ·rw[←hxe,Int.toNat_natCast];exact⟨by omega,hcm⟩
   ·rw[←hxe,moveC_mv];exact mlook_new hl'
   ·rw[moveC_mv];exact List.mem_append.2 (Or.inl hp)
   ·rw[moveC_todo]
    cases hq:rawB (hKind (wat C.M.W x.a)) with
    | true=>exact Or.inl rfl
    | false =>
     refine Or.inr ⟨_,rfl,fun p hp he=>?_⟩
     have h1:Img M0 (moveC C x.a).mv p.1.toNat p.2.toNat:=Or.inr (by
      obtain⟨y,hy,e⟩:=h.keys p hp
      rw[moveC_mv,Int.toNat_of_nonneg (by omega),Int.toNat_of_nonneg (h.vals p hp)];exact List.mem_append.2 (Or.inl hp))
     have h2:Img M0 (moveC C x.a).mv x.a p.2.toNat:=Or.inr (by
      rw[moveC_mv,Int.toNat_of_nonneg (h.vals p hp),he];exact List.mem_append.2 (Or.inr (List.mem_singleton.2 rfl)))
     have h3:=hi'.inj hr h1 h2
     obtain⟨y,hy,e⟩:=h.keys p hp
     exact mlook_none hl' p hp (by omega)
end
section
variable {M0:Mem} {ten:Int} {C:Col} {R:Nat→Prop} {cl:Bool} {D:List Int}
theorem Inv.congrR (h:Inv M0 ten C R cl D) {R':Nat→Prop} (e:∀ i,R i↔R' i):Inv M0 ten C R' cl D:=by
 have:R=R':=funext fun i=>propext (e i)
 rw[←this];exact h
theorem Inv.img_all (h:Inv M0 ten C R cl D) {a b:Nat} (hi:Img M0 C.mv a b):∃ x∈objsAll M0,x.a=a:=by
 unfold objsAll
 rcases hi with⟨rfl,hm⟩|hm
 ·obtain⟨x,hx,rfl⟩:=List.mem_map.1 hm
  exact⟨x,List.mem_append.2 (Or.inr hx),rfl⟩
 ·obtain⟨x,hx,e⟩:=h.keyN hm
  exact⟨x,List.mem_append.2 (Or.inl hx),e⟩
theorem Inv.fldB_ (h:Inv M0 ten C R cl D) (hr:Ready M0 ten) {a b:Nat} (hi:Img M0 C.mv a b) (hq:rawB (hKind (wat M0.W a))=false) {k:Nat} (hk:k<szW M0.W a):fldB (startsM M0) (wat M0.W (a+1+k))=true:=by
 obtain⟨x,hx,rfl⟩:=h.img_all hi
 have hg:=good_parts (chk_zero hr.chk).1
 have hm:=mem_in hg.1 hx
 exact fld_ok hg.2.2.2.2.1 hx (by rw[hm.2.1];exact hq) k (by unfold Ob.n;rw[hm.2.1];exact hk)
theorem Inv.inW (h:Inv M0 ten C R cl D) (hr:Ready M0 ten) {a b:Nat} (hi:Img M0 C.mv a b):b+1+szW M0.W a≤C.M.W.length:=by
 obtain⟨hh,e1,e2,e3,e4,e5,e6,e7,e8,e9,e10,e11,e12⟩:=hr.shp.nums
 have ht:=h.totle hr
 have h0:=h.top0
 have hoT:=h.oldT
 have hro:=hr.room
 rw[h.like.lenW]
 rcases h.place hr hi with⟨p1,p2,p3,p4⟩|⟨p1,p2,p3⟩<;>omega
theorem store_inv (h:Inv M0 ten C R true D) (hr:Ready M0 ten) {a b:Nat} (hi:Img M0 C.mv a b) {k:Nat} (hk:k<szW M0.W a) (hq:rawB (hKind (wat M0.W a))=false)
  (hT:∀ c∈C.todo,c≠(b:Int)) {v:Int} (hv:Fol M0 C.mv (wat M0.W (a+1+k)) v) (h0:0≤v) (h1:v≤18446744073709551615) :
  Inv M0 ten {C with M:=storeM C.M (b+1+k) v} (fun i=>R i∧i≠b+1+k) true D:=by
 have hW:=storeM_W C.M (b+1+k) v
 have hlt:b+1+k<C.M.W.length:=by have:=h.inW hr hi;omega
 have hat:∀ i,i≠b+1+k→wat (storeM C.M (b+1+k) v).W i=wat C.M.W i:=fun i hne=>by rw[hW];exact wat_set _ _ _ _ hne
 have hat0:wat (storeM C.M (b+1+k) v).W (b+1+k)=v:=by rw[hW];exact wat_set_same _ _ _ hlt
 obtain⟨hh,e1,e2,e3,e4,e5,e6,e7,e8,e9,e10,e11,e12⟩:=hr.shp.nums
 have htl:=h.totle hr
 have ht0:=h.top0
 have hoT:=h.oldT
 have hro:=hr.room
 have hpl:=h.place hr hi
 have same:=storeM_same C.M (b+1+k) v
 have head_ne:∀ a' b',Img M0 C.mv a' b'→b'≠b+1+k:=fun a' b' hi' e=>by
  by_cases q:b=b'
  ·omega
  ·rcases h.apart hr hi hi' q with r|r<;>omega
 have szb:∀ a' b',Img M0 C.mv a' b'→szW (storeM C.M (b+1+k) v).W b'=szW C.M.W b':=fun a' b' hi'=>by
  unfold szW;rw[hat _ (head_ne a' b' hi')]
 have timg:∀ c∈C.todo,∃ a',Img M0 C.mv a' c.toNat∧szW C.M.W c.toNat=szW M0.W a'∧0≤c:=fun c hc=>by
  obtain⟨a',q1,q2,q3⟩:=h.todo_img (List.mem_append.2 (Or.inr hc))
  have hi':Img M0 C.mv a' c.toNat:=Or.inr (by rw[Int.toNat_of_nonneg q2];exact q1)
  exact⟨a',hi',(h.hd hr hi').2.2.2.1,q2⟩
 have pend:∀ i,Pend {C with M:=storeM C.M (b+1+k) v} (fun i=>R i∧i≠b+1+k) i↔(Pend C R i∧i≠b+1+k):=fun i=>by
  unfold Pend
  constructor
  ·rintro (⟨q1,q2⟩|⟨c,hc,q1,q2⟩)
   ·exact⟨Or.inl q1,q2⟩
   ·obtain⟨a',r1,r2,r3⟩:=timg c hc
    simp only at q2
    rw[szb a' _ r1] at q2
    refine⟨Or.inr ⟨c,hc,q1,q2⟩,fun e=>?_⟩
    have hcb:=hT c hc
    rcases h.apart hr hi r1 (by omega) with s|s<;>omega
  ·rintro⟨q1|⟨c,hc,q1,q2⟩,q3⟩
   ·exact Or.inl ⟨q1,q3⟩
   ·obtain⟨a',r1,r2,r3⟩:=timg c hc
    exact Or.inr ⟨c,hc,q1,by simp only;rw[szb a' _ r1];exact q2⟩
 have only:∀ a' b',Img M0 C.mv a' b'→∀ k',k'<szW M0.W a'→b'+1+k'=b+1+k→b'=b∧a'=a∧k'=k:=fun a' b' hi' k' hk' e=>by
  by_cases q:b=b'
  ·subst q;exact⟨rfl,h.inj hr hi' hi,by omega⟩
  ·rcases h.apart hr hi hi' q with r|r<;>omega
 refine⟨h.like.then_ (storeM_like _ _ _),storeM_ok h.ok _ _ h0 h1,h.tenE,h.base,h.top0,by show _≤(storeM C.M (b+1+k) v).oldTop;rw[storeM_oldTop];exact h.oldT,?_,?_,h.keys,h.nodup,h.vals,h.side,?_,?_,?_,?_,?_,?_,h.todo⟩
 ·show C.top+((storeM C.M (b+1+k) v).oldTop-M0.oldTop)=_
  rw[storeM_oldTop];exact h.tot
 ·intro i q1 q2
  rw[hat i (by rcases hpl with⟨p1,p2,p3,p4⟩|⟨p1,p2,p3⟩<;>rcases e3 with⟨u1,u2,u3⟩|⟨u1,u2,u3⟩<;>omega)]
  exact h.src i q1 q2
 ·intro p hp
  have hi':Img M0 C.mv p.1.toNat p.2.toNat:=Or.inr (by
   obtain⟨y,hy,e⟩:=h.keys p hp
   rw[Int.toNat_of_nonneg (by omega),Int.toNat_of_nonneg (h.vals p hp)];exact hp)
  rw[hat _ (head_ne _ _ hi')]
  exact h.head p hp
 ·refine h.layN.congr fun c hc=>?_
  obtain⟨p,hp,rfl⟩:=List.mem_map.1 hc
  obtain⟨hp1,_⟩:=List.mem_filter.1 hp
  have hi':Img M0 C.mv p.1.toNat p.2.toNat:=Or.inr (by
   obtain⟨y,hy,e⟩:=h.keys p hp1
   rw[Int.toNat_of_nonneg (by omega),Int.toNat_of_nonneg (h.vals p hp1)];exact hp1)
  exact hat _ (head_ne _ _ hi')
 ·show Laid (storeM C.M (b+1+k) v).W _ _ (hbM M0+(storeM C.M (b+1+k) v).oldTop.toNat)
  rw[storeM_oldTop]
  refine h.layO.congr fun c hc=>?_
  obtain⟨p,hp,rfl⟩:=List.mem_map.1 hc
  obtain⟨hp1,_⟩:=List.mem_filter.1 hp
  have hi':Img M0 C.mv p.1.toNat p.2.toNat:=Or.inr (by
   obtain⟨y,hy,e⟩:=h.keys p hp1
   rw[Int.toNat_of_nonneg (by omega),Int.toNat_of_nonneg (h.vals p hp1)];exact hp1)
  exact hat _ (head_ne _ _ hi')
 ·intro x hx
  have hi':Img M0 C.mv x.a x.a:=Or.inl ⟨rfl,List.mem_map_of_mem (f:=(·.a)) hx⟩
  rw[hat _ (head_ne _ _ hi')]
  exact h.hdO x hx
 ·intro a' b' hi' k' hk'
  by_cases e:b'+1+k'=b+1+k
  ·obtain⟨rfl,rfl,rfl⟩:=only a' b' hi' k' hk' e
   refine⟨fun q=>(by rw[hq] at q;cases q),fun _=>⟨fun p=>absurd rfl ((pend _).1 p).2,fun _=>?_⟩⟩
   show Fol M0 C.mv _ (wat (storeM C.M _ v).W _)
   rw[hat0];exact hv
  ·obtain⟨q1,q2⟩:=h.fld a' b' hi' k' hk'
   have hs:=hat _ e
   refine⟨fun q=>hs.trans (q1 q),fun q=>⟨fun p=>hs.trans ((q2 q).1 ((pend _).1 p).1),fun p=>?_⟩⟩
   show Fol M0 C.mv _ (wat (storeM C.M _ v).W _)
   rw[hs];exact (q2 q).2 fun p'=>p ((pend _).2 ⟨p',e⟩)
 ·intro a' b' hi' k' hk' hq' hb' hp hy
  refine⟨rfl,?_⟩
  have mono:∀ j,cardB C.M j=true→cardB (storeM C.M (b+1+k) v) j=true:=fun j hj=>by
   unfold cardB at hj ⊢
   rw[same.1,same.2.2.1]
   exact (storeM_cards C.M (b+1+k) v).2 _ hj
  by_cases e:b'+1+k'=b+1+k
  ·obtain⟨rfl,rfl,rfl⟩:=only a' b' hi' k' hk' e
   simp only[hat0] at hy
   have hold:oldB C.M ((b'+1+k':Nat):Int)=true:=by unfold oldB;rw[h.like.half];unfold hbM at hb';exact decide_eq_true (by omega)
   have hyo:youngB C.M v=true:=by rw[h.like.young];exact hy
   have hsc:=(h.shp hr).card ((b'+1+k':Nat):Int) (by rw[h.like.half];unfold hbM at hb';omega) (by rw[h.like.half,h.like.old];have:=h.like.lenW;omega)
   show cardB (storeM C.M (b'+1+k') v) _=true
   unfold storeM
   rw[hold,hyo]
   simp only[Bool.and_self,if_true]
   unfold cardB touchM setM cardI
   simp only
   rw[List.getD_eq_getElem?_getD,List.getElem?_set_self (by omega)];rfl
  ·have hs:=hat _ e
   simp only[hs] at hy
   exact mono _ (h.crd a' b' hi' k' hk' hq' hb' (fun p'=>hp ((pend _).2 ⟨p',e⟩)) hy).2
theorem step_inv (h:Inv M0 ten C R true D) (hr:Ready M0 ten) {a b:Nat} (hi:Img M0 C.mv a b) {k:Nat} (hk:k<szW M0.W a) (hq:rawB (hKind (wat M0.W a))=false) (hP:R (b+1+k)) (hT:∀ c∈C.todo,c≠(b:Int)) :
  (b+1+k<C.M.W.length∧C.M.Ok∧Shp C.M∧CanFollow C (wat C.M.W (b+1+k))∧(0≤(followC C (wat C.M.W (b+1+k))).1∧(followC C (wat C.M.W (b+1+k))).1≤18446744073709551615)∧(followC C (wat C.M.W (b+1+k))).2.M.Ok∧Shp (followC C (wat C.M.W (b+1+k))).2.M∧b+1+k<(followC C (wat C.M.W (b+1+k))).2.M.W.length) ∧
  Inv M0 ten {(followC C (wat C.M.W (b+1+k))).2 with M:=storeM (followC C (wat C.M.W (b+1+k))).2.M (b+1+k) (followC C (wat C.M.W (b+1+k))).1} (fun i=>R i∧i≠b+1+k) true D ∧
  (∀ p∈C.mv,p∈(followC C (wat C.M.W (b+1+k))).2.mv)∧(∀ c∈(followC C (wat C.M.W (b+1+k))).2.todo,c≠(b:Int))∧(followC C (wat C.M.W (b+1+k))).2.M.roots=C.M.roots:=by
 have hu:wat C.M.W (b+1+k)=wat M0.W (a+1+k):=((h.fld a b hi k hk).2 hq).1 (Or.inl hP)
 have hf:=h.fldB_ hr hi hq hk
 rw[←hu] at hf
 obtain⟨f1,f2,f3,f4,f5,f6,f7⟩:=follow_inv h hr hf
 have hw:=wat_in h.ok (b+1+k)
 have hv:=followC_word (C:=C) hw.1 hw.2
 have hi2:Img M0 (followC C (wat C.M.W (b+1+k))).2.mv a b:=by
  rcases hi with q|q
  ·exact Or.inl q
  ·exact Or.inr (f6 _ q)
 have hT2:∀ c∈(followC C (wat C.M.W (b+1+k))).2.todo,c≠(b:Int):=fun c hc=>by
  rcases f7 with e|⟨t,e,ht⟩
  ·rw[e] at hc;exact hT c hc
  ·rw[e] at hc
   rcases List.mem_append.1 hc with hc'|hc'
   ·exact hT c hc'
   ·rw[List.mem_singleton] at hc'
    subst hc'
    rcases hi with⟨rfl,hm⟩|hm
    ·intro eb
     obtain⟨a',q1,q2,q3⟩:=f2.todo_img (b:=c) (List.mem_append.2 (Or.inr (by rw[e];exact hc)))
     have hi':Img M0 (followC C (wat C.M.W (a+1+k))).2.mv a' a:=Or.inr (by rw[←eb];exact q1)
     have ea:=f2.inj hr hi' hi2
     subst ea
     obtain⟨y,hy,ey⟩:=f2.keyN (a:=a') (b:=c.toNat) (by rw[Int.toNat_of_nonneg q2];exact q1)
     obtain⟨z,hz,ez⟩:=List.mem_map.1 hm
     obtain⟨hh,e1,e2,e3,e4,e5,e6,e7,e8,e9,e10,e11,e12⟩:=hr.shp.nums
     have r1:=hr.inN hy
     have r2:=hr.inO hz
     rcases e3 with⟨u1,u2,u3⟩|⟨u1,u2,u3⟩<;>omega
    ·exact fun eb=>ht _ hm eb.symm
 rw[hu] at f3
 have hs:=store_inv f2 hr hi2 hk hq hT2 (v:=(followC C (wat C.M.W (b+1+k))).1) (by rw[hu];exact f3) hv.1 hv.2
 exact⟨⟨by have:=h.inW hr hi;omega,h.ok,h.shp hr,f1,hv,f2.ok,f2.shp hr,by have:=f2.inW hr hi2;omega⟩,hs,f6,hT2,f4⟩
theorem fields_inv (hr:Ready M0 ten) {a b:Nat} (hq:rawB (hKind (wat M0.W a))=false):∀ (n k:Nat) (C:Col),k+n=szW M0.W a→Inv M0 ten C (fun i=>R i∨(b+1+k≤i∧i<b+1+szW M0.W a)) true D→(∀ i,b+1≤i→i<b+1+szW M0.W a→¬R i) →
  Img M0 C.mv a b→(∀ c∈C.todo,c≠(b:Int)) →
  CanFields C (b+1+k) n∧Inv M0 ten (fieldsC C (b+1+k) n) R true D∧(∀ p∈C.mv,p∈(fieldsC C (b+1+k) n).mv)∧(fieldsC C (b+1+k) n).M.roots=C.M.roots
 | 0,k,C,hk,h,hR,hi,hT=>⟨trivial,h.congrR fun i=>⟨fun q=>q.elim id fun q=>by omega,Or.inl⟩,fun p hp=>hp,rfl⟩
 | n+1,k,C,hk,h,hR,hi,hT=>by
  obtain⟨⟨c1,c2,c3,c4,c5,c6,c7,c8⟩,s2,s3,s4,s5⟩:=step_inv h hr hi (k:=k) (by omega) hq (Or.inr ⟨Nat.le_refl _,by omega⟩) hT
  have s2':=s2.congrR (R':=fun i=>R i∨(b+1+(k+1)≤i∧i<b+1+szW M0.W a)) fun i=>by
   constructor
   ·rintro⟨q|q,hne⟩
    ·exact Or.inl q
    ·exact Or.inr (by omega)
   ·rintro (q|q)
    ·refine⟨Or.inl q,fun e=>?_⟩
     exact hR i (by omega) (by omega) q
    ·exact⟨Or.inr (by omega),by omega⟩
  have hi2:Img M0 (followC C (wat C.M.W (b+1+k))).2.mv a b:=by
   rcases hi with q|q
   ·exact Or.inl q
   ·exact Or.inr (s3 _ q)
  obtain⟨r1,r2,r3,r4⟩:=fields_inv hr hq n (k+1) _ (by omega) s2' hR hi2 s4
  refine⟨⟨c1,c2,c3,c4,c5,c6,c7,c8,r1⟩,r2,fun p hp=>r3 p (s3 p hp),r4.trans ?_⟩
  show (storeM _ _ _).roots=_
  rw[(storeM_same _ _ _).2.2.2.2.2.2.1];exact s5
def CanCards (was:List Bool) (C:Col):Nat→Nat→Prop
 | _,0=>True
 | i,n+1=>(i<C.M.W.length∧C.M.Ok∧Shp C.M∧2*C.M.half≤(i:Int)∧(i:Int)<2*C.M.half+C.M.old∧was.length=C.M.cards.length) ∧
   (was.getD (cardI C.M (i:Int)) false=true→CanFollow C (wat C.M.W i)∧(0≤(followC C (wat C.M.W i)).1∧(followC C (wat C.M.W i)).1≤18446744073709551615)∧(followC C (wat C.M.W i)).2.M.Ok∧Shp (followC C (wat C.M.W i)).2.M∧i<(followC C (wat C.M.W i)).2.M.W.length ∧
    CanCards was {(followC C (wat C.M.W i)).2 with M:=storeM (followC C (wat C.M.W i)).2.M i (followC C (wat C.M.W i)).1} (i+1) n) ∧
   (was.getD (cardI C.M (i:Int)) false=false→CanCards was C (i+1) n)
def CT (M0:Mem) (i:Nat):Prop:=M0.cards.getD (cardI M0 (i:Int)) false=true
theorem cards_inv (hr:Ready M0 ten) {b:Nat} (hb:b∈(partO M0).1.map (·.a)) (hq:rawB (hKind (wat M0.W b))=false):∀ (n k:Nat) (C:Col),k+n=szW M0.W b→Inv M0 ten C (fun i=>R i∨(b+1+k≤i∧i<b+1+szW M0.W b∧CT M0 i)) true D→(∀ i,b+1≤i→i<b+1+szW M0.W b→¬R i) →
  (∀ c∈C.todo,c≠(b:Int)) →
  CanCards M0.cards C (b+1+k) n∧Inv M0 ten (cardsC M0.cards C (b+1+k) n) R true D∧(∀ p∈C.mv,p∈(cardsC M0.cards C (b+1+k) n).mv)∧(cardsC M0.cards C (b+1+k) n).M.roots=C.M.roots
 | 0,k,C,hk,h,hR,hT=>⟨trivial,h.congrR fun i=>⟨fun q=>q.elim id fun q=>by omega,Or.inl⟩,fun p hp=>hp,rfl⟩
 | n+1,k,C,hk,h,hR,hT=>by
  have hi:Img M0 C.mv b b:=Or.inl ⟨rfl,hb⟩
  have hcard:cardI C.M ((b+1+k:Nat):Int)=cardI M0 ((b+1+k:Nat):Int):=by unfold cardI;rw[h.like.half,h.like.card]
  obtain⟨x,hx,hxe⟩:=List.mem_map.1 hb
  subst hxe
  have hpl:=hr.inO hx
  have hro:=hr.room
  obtain⟨hh,e1,e2,e3,e4,e5,e6,e7,e8,e9,e10,e11,e12⟩:=hr.shp.nums
  have hin:x.a+1+k<C.M.W.length∧C.M.Ok∧Shp C.M∧2*C.M.half≤((x.a+1+k:Nat):Int)∧((x.a+1+k:Nat):Int)<2*C.M.half+C.M.old∧M0.cards.length=C.M.cards.length :=
   ⟨by have:=h.inW hr hi;omega,h.ok,h.shp hr,by rw[h.like.half];omega,by rw[h.like.half,h.like.old];omega,h.like.lenC.symm⟩
  cases hc:M0.cards.getD (cardI M0 ((x.a+1+k:Nat):Int)) false with
  | false =>
   have h':=h.congrR (R':=fun i=>R i∨(x.a+1+(k+1)≤i∧i<x.a+1+szW M0.W x.a∧CT M0 i)) fun i=>by
    constructor
    ·rintro (q|⟨q1,q2,q3⟩)
     ·exact Or.inl q
     ·refine Or.inr ⟨?_,q2,q3⟩
      rcases Nat.lt_or_ge (x.a+1+k) i with g|g
      ·omega
      ·obtain rfl:i=x.a+1+k:=by omega
       unfold CT at q3
       rw[hc] at q3;cases q3
    ·rintro (q|⟨q1,q2,q3⟩)
     ·exact Or.inl q
     ·exact Or.inr ⟨by omega,q2,q3⟩
   obtain⟨r1,r2,r3,r4⟩:=cards_inv hr hb hq n (k+1) C (by omega) h' hR hT
   have e:cardsC M0.cards C (x.a+1+k) (n+1)=cardsC M0.cards C (x.a+1+(k+1)) n:=by
    rw[cardsC,hcard,hc];rfl
   rw[e]
   exact⟨⟨hin,fun q=>(by rw[hcard,hc] at q;cases q),fun _=>r1⟩,r2,r3,r4⟩
  | true =>
   obtain⟨⟨c1,c2,c3,c4,c5,c6,c7,c8⟩,s2,s3,s4,s5⟩:=step_inv h hr hi (k:=k) (by omega) hq (Or.inr ⟨Nat.le_refl _,by omega,hc⟩) hT
   have s2':=s2.congrR (R':=fun i=>R i∨(x.a+1+(k+1)≤i∧i<x.a+1+szW M0.W x.a∧CT M0 i)) fun i=>by
    constructor
    ·rintro⟨q|⟨q1,q2,q3⟩,hne⟩
     ·exact Or.inl q
     ·exact Or.inr ⟨by omega,q2,q3⟩
    ·rintro (q|⟨q1,q2,q3⟩)
     ·refine⟨Or.inl q,fun e=>?_⟩
      exact hR i (by omega) (by omega) q
     ·exact⟨Or.inr ⟨by omega,q2,q3⟩,by omega⟩
   obtain⟨r1,r2,r3,r4⟩:=cards_inv hr hb hq n (k+1) _ (by omega) s2' hR s4
   have e:cardsC M0.cards C (x.a+1+k) (n+1)=cardsC M0.cards {(followC C (wat C.M.W (x.a+1+k))).2 with M:=storeM (followC C (wat C.M.W (x.a+1+k))).2.M (x.a+1+k) (followC C (wat C.M.W (x.a+1+k))).1} (x.a+1+(k+1)) n:=by
    rw[cardsC,hcard,hc];rfl
   rw[e]
   refine⟨⟨hin,fun _=>⟨c4,c5,c6,c7,c8,r1⟩,fun q=>(by rw[hcard,hc] at q;cases q)⟩,r2,fun p hp=>r3 p (s3 p hp),r4.trans ?_⟩
   show (storeM _ _ _).roots=_
   rw[(storeM_same _ _ _).2.2.2.2.2.2.1];exact s5
end
def CanOlds (was:List Bool):Col→List Int→Prop
 | C,[]=>True
 | C,a::l=>(0≤a∧a≤1000000∧a.toNat<C.M.W.length∧C.M.Ok∧Shp C.M∧isHd (wat C.M.W a.toNat)=true)∧CanCards was C (a.toNat+1) (hSize (wat C.M.W a.toNat)).toNat∧CanOlds was (cardsC was C (a.toNat+1) (hSize (wat C.M.W a.toNat)).toNat) l
def CanTodo:Nat→Col→Prop
 | 0,C=>C.todo=[]
 | n+1,C =>
  match C.todo with
  | []=>True
  | a::t=>(0≤a∧a≤1000000∧a.toNat<C.M.W.length∧C.M.Ok∧Shp C.M∧isHd (wat C.M.W a.toNat)=true)∧CanFields {C with todo:=t} (a.toNat+1) (hSize (wat C.M.W a.toNat)).toNat∧CanTodo n (fieldsC {C with todo:=t} (a.toNat+1) (hSize (wat C.M.W a.toNat)).toNat)
def CanRoots (C:Col):Nat→Nat→Prop
 | _,0=>True
 | i,n+1=>(i<C.M.roots.length∧C.M.Ok∧Shp C.M)∧CanFollow C (C.M.roots.getD i 0)∧(0≤(followC C (C.M.roots.getD i 0)).1∧(followC C (C.M.roots.getD i 0)).1≤18446744073709551615)∧(followC C (C.M.roots.getD i 0)).2.M.Ok∧Shp (followC C (C.M.roots.getD i 0)).2.M ∧
   CanRoots {(followC C (C.M.roots.getD i 0)).2 with M:={(followC C (C.M.roots.getD i 0)).2.M with roots:=(followC C (C.M.roots.getD i 0)).2.M.roots.set i (followC C (C.M.roots.getD i 0)).1}} (i+1) n
def RO (M0:Mem) (l:List Int) (i:Nat):Prop:=∃ a∈l,a.toNat+1≤i∧i<a.toNat+1+szW M0.W a.toNat∧CT M0 i
def fromW (W:List Int) (lo hi:Nat):List Int:=((part W lo hi).1.filter fun x=>!rawB (hKind x.w)).map fun x=>(x.a:Int)
section
variable {M0:Mem} {ten:Int} {C:Col} {R:Nat→Prop} {cl:Bool} {D:List Int}
theorem Inv.ne_old (h:Inv M0 ten C R cl D) (hr:Ready M0 ten) {x:Ob} (hx:x∈(partO M0).1) {c:Int} (hc:c∈D++C.todo):c≠(x.a:Int):=fun e=>by
 obtain⟨a,q1,q2,_⟩:=h.todo_img hc
 subst e
 have hi:Img M0 C.mv x.a x.a:=Or.inl ⟨rfl,List.mem_map_of_mem (f:=(·.a)) hx⟩
 have ea:=h.inj hr (Or.inr q1) hi
 subst ea
 obtain⟨y,hy,ey⟩:=h.keyN q1
 obtain⟨hh,e1,e2,e3,e4,e5,e6,e7,e8,e9,e10,e11,e12⟩:=hr.shp.nums
 have r1:=hr.inN hy
 have r2:=hr.inO hx
 rcases e3 with⟨u1,u2,u3⟩|⟨u1,u2,u3⟩<;>omega
theorem olds_inv (hr:Ready M0 ten):∀ (l:List Int) (C:Col),(∀ a∈l,∃ x∈(partO M0).1,a=(x.a:Int)∧rawB (hKind (wat M0.W x.a))=false)→l.Nodup→Inv M0 ten C (RO M0 l) true D →
  CanOlds M0.cards C l∧Inv M0 ten (oldsC M0.cards C l) (fun _=>False) true D∧(∀ p∈C.mv,p∈(oldsC M0.cards C l).mv)∧(oldsC M0.cards C l).M.roots=C.M.roots
 | [],C,_,_,h=>⟨trivial,h.congrR fun i=>⟨fun ⟨a,ha,_⟩=>by simp at ha,False.elim⟩,fun p hp=>hp,rfl⟩
 | a::l,C,hl,hn,h=>by
  obtain⟨x,hx,rfl,hq⟩:=hl a (by simp)
  rw[List.nodup_cons] at hn
  have hb:x.a∈(partO M0).1.map (·.a):=List.mem_map_of_mem (f:=(·.a)) hx
  have hr2:=hr.inO hx
  obtain⟨hh,e1,e2,e3,e4,e5,e6,e7,e8,e9,e10,e11,e12⟩:=hr.shp.nums
  have hi:Img M0 C.mv x.a x.a:=Or.inl ⟨rfl,hb⟩
  have hW:=h.hdO x hx
  have hz:(hSize (wat C.M.W x.a)).toNat=szW M0.W x.a:=by rw[hW];rfl
  have h':=h.congrR (R':=fun i=>RO M0 l i∨(x.a+1+0≤i∧i<x.a+1+szW M0.W x.a∧CT M0 i)) fun i=>by
   unfold RO
   constructor
   ·rintro⟨c,hc,q1,q2,q3⟩
    rcases List.mem_cons.1 hc with rfl|hc
    ·rw[Int.toNat_natCast] at q1 q2;exact Or.inr ⟨q1,q2,q3⟩
    ·exact Or.inl ⟨c,hc,q1,q2,q3⟩
   ·rintro (⟨c,hc,q1,q2,q3⟩|⟨q1,q2,q3⟩)
    ·exact⟨c,by simp[hc],q1,q2,q3⟩
    ·exact⟨(x.a:Int),by simp,by rw[Int.toNat_natCast];exact q1,by rw[Int.toNat_natCast];exact q2,q3⟩
  have hR:∀ i,x.a+1≤i→i<x.a+1+szW M0.W x.a→¬RO M0 l i:=fun i q1 q2 ⟨c,hc,q3,q4,_⟩=>by
   obtain⟨y,hy,rfl,_⟩:=hl c (by simp[hc])
   rw[Int.toNat_natCast] at q3 q4
   have hne:x.a≠y.a:=fun e=>hn.1 (by rw[e];exact hc)
   rcases hr.laidO.apart hb (List.mem_map_of_mem (f:=(·.a)) hy) hne with r|r<;>omega
  obtain⟨c1,c2,c3,c4⟩:=cards_inv hr hb hq (szW M0.W x.a) 0 C (by omega) h' hR fun c hc=>h.ne_old hr hx (List.mem_append.2 (Or.inr hc))
  rw[Nat.add_zero] at c1 c2 c3 c4
  obtain⟨d1,d2,d3,d4⟩:=olds_inv hr l _ (fun a ha=>hl a (by simp[ha])) hn.2 c2
  unfold CanOlds oldsC
  simp only[Int.toNat_natCast,hz]
  have hin:=h.inW hr hi
  exact⟨⟨⟨by omega,by omega,by omega,h.ok,h.shp hr,by rw[hW];exact hr2.2.1⟩,c1,d1⟩,d2,fun p hp=>d3 p (c3 p hp),d4.trans c4⟩
theorem Inv.vnodup (h:Inv M0 ten C R cl D) (hr:Ready M0 ten):(LFl M0 C.mv).Nodup:=by
 unfold LFl
 have hk:=h.nodup
 unfold List.Nodup at hk ⊢
 rw[List.pairwise_map] at hk ⊢
 refine List.Pairwise.filter _ (List.Pairwise.imp_of_mem (fun {p q} hp hq' hpq e=>?_) hk)
 have key:∀ p∈C.mv,Img M0 C.mv p.1.toNat p.2.toNat:=fun p hp=>Or.inr (by
  obtain⟨y,hy,e⟩:=h.keys p hp
  rw[Int.toNat_of_nonneg (by omega),Int.toNat_of_nonneg (h.vals p hp)];exact hp)
 have h1:=key p hp
 have h2:=key q hq'
 rw[e] at h1
 exact hpq (h.inj hr h1 h2)
theorem Inv.pop (h:Inv M0 ten C (fun _=>False) cl D) (hr:Ready M0 ten) {c:Int} {t:List Int} (e:C.todo=c::t) {a:Nat} (hs:szW C.M.W c.toNat=szW M0.W a) :
  Inv M0 ten {C with todo:=t} (fun i=>False∨(c.toNat+1+0≤i∧i<c.toNat+1+szW M0.W a)) cl (D++[c]):=by
 have hp:∀ i,Pend {C with todo:=t} (fun i=>False∨(c.toNat+1+0≤i∧i<c.toNat+1+szW M0.W a)) i↔Pend C (fun _=>False) i:=fun i=>by
  unfold Pend
  rw[e]
  constructor
  ·rintro ((q|q)|⟨d,hd,q1,q2⟩)
   ·exact q.elim
   ·exact Or.inr ⟨c,by simp,by omega,by omega⟩
   ·exact Or.inr ⟨d,by simp[hd],q1,q2⟩
  ·rintro (q|⟨d,hd,q1,q2⟩)
   ·exact q.elim
   ·rcases List.mem_cons.1 hd with rfl|hd
    ·exact Or.inl (Or.inr ⟨by omega,by omega⟩)
    ·exact Or.inr ⟨d,hd,q1,q2⟩
 refine⟨h.like,h.ok,h.tenE,h.base,h.top0,h.oldT,h.tot,h.src,h.keys,h.nodup,h.vals,h.side,h.head,h.layN,h.layO,h.hdO,?_,?_,?_⟩
 ·intro a b hi k hk
  obtain⟨q1,q2⟩:=h.fld a b hi k hk
  exact⟨q1,fun hq=>⟨fun p=>(q2 hq).1 ((hp _).1 p),fun p=>(q2 hq).2 fun p'=>p ((hp _).2 p')⟩⟩
 ·intro a b hi k hk hq hb p hy
  exact h.crd a b hi k hk hq hb (fun p'=>p ((hp _).2 p')) hy
 ·have:=h.todo
  rw[e] at this
  show LFl M0 C.mv=D++[c]++t
  rw[this,List.append_assoc];rfl
theorem todo_inv (hr:Ready M0 ten):∀ (n:Nat) (C:Col) (D:List Int),Inv M0 ten C (fun _=>False) true D→M0.top.toNat≤n+D.length →
  CanTodo n C∧∃ D',Inv M0 ten (todoC n C) (fun _=>False) true D'∧(todoC n C).todo=[]∧(∀ p∈C.mv,p∈(todoC n C).mv)∧(todoC n C).M.roots=C.M.roots
 | 0,C,D,h,hn=>by
  have hl:=h.todo_len hr
  have e:C.todo=[]:=List.eq_nil_of_length_eq_zero (by omega)
  exact⟨e,D,h,e,fun p hp=>hp,rfl⟩
 | n+1,C,D,h,hn=>by
  unfold CanTodo todoC
  cases e:C.todo with
  | nil=>exact⟨trivial,D,h,e,fun p hp=>hp,rfl⟩
  | cons c t =>
   obtain⟨a,q1,q2,q3⟩:=h.todo_img (b:=c) (by rw[e];simp)
   have hi:Img M0 C.mv a c.toNat:=Or.inr (by rw[Int.toNat_of_nonneg q2];exact q1)
   obtain⟨d1,d2,d3,d4,d5⟩:=h.hd hr hi
   have hp:=h.pop hr e d4
   have hT:∀ d∈t,d≠((c.toNat:Nat):Int):=fun d hd he=>by
    have hv:=h.vnodup hr
    rw[h.todo,e,List.nodup_append] at hv
    have:=(List.nodup_cons.1 hv.2.1).1
    rw[Int.toNat_of_nonneg q2] at he
    exact this (he ▸ hd)
   obtain⟨f1,f2,f3,f4⟩:=fields_inv (R:=fun _=>False) hr q3 (szW M0.W a) 0 {C with todo:=t} (by omega) hp (fun _ _ _ q=>q) hi hT
   rw[Nat.add_zero] at f1 f2 f3 f4
   obtain⟨g1,D',g2,g3,g4,g5⟩:=todo_inv hr n _ _ f2 (by rw[List.length_append,List.length_singleton];omega)
   have hz:(hSize (wat C.M.W c.toNat)).toNat=szW M0.W a:=d4
   simp only[hz]
   have hin:=h.inW hr hi
   obtain⟨hh,e1,e2,e3,e4,e5,e6,e7,e8,e9,e10,e11,e12⟩:=hr.shp.nums
   have hlw:=h.like.lenW
   exact⟨⟨⟨q2,by omega,by omega,h.ok,h.shp hr,d2⟩,f1,g1⟩,D',g2,g3,fun p hp=>g4 p (f3 p hp),g5.trans f4⟩
theorem ok_roots {M:Mem} (h:M.Ok) (i:Nat) {v:Int} (h0:0≤v) (h1:v≤18446744073709551615):({M with roots:=M.roots.set i v}:Mem).Ok :=
 ⟨h.half,h.old,h.card,h.used,h.top,h.oldTop,h.W,fun x hx=>by
  rcases List.mem_or_eq_of_mem_set hx with q|q
  ·exact h.roots x q
  ·subst q;exact⟨h0,h1⟩,h.weak,h.ids,h.lenW,by rw[List.length_set];exact h.lenR,h.lenK,h.lenI,h.lenC⟩
theorem Inv.setRoots (h:Inv M0 ten C R cl D) (i:Nat) {v:Int} (h0:0≤v) (h1:v≤18446744073709551615):Inv M0 ten {C with M:={C.M with roots:=C.M.roots.set i v}} R cl D :=
 ⟨⟨h.like.half,h.like.old,h.like.card,h.like.used,h.like.top,h.like.weak,h.like.ids,h.like.lenW,h.like.lenC⟩,ok_roots h.ok i h0 h1,h.tenE,h.base,h.top0,h.oldT,h.tot,h.src,h.keys,h.nodup,h.vals,h.side,h.head,h.layN,h.layO,h.hdO,h.fld,h.crd,h.todo⟩
theorem Inv.setCards (h:Inv M0 ten C R false D) (cs:List Bool) (hl:cs.length=M0.cards.length):Inv M0 ten {C with M:={C.M with cards:=cs}} R true D :=
 ⟨⟨h.like.half,h.like.old,h.like.card,h.like.used,h.like.top,h.like.weak,h.like.ids,h.like.lenW,hl⟩,⟨h.ok.half,h.ok.old,h.ok.card,h.ok.used,h.ok.top,h.ok.oldTop,h.ok.W,h.ok.roots,h.ok.weak,h.ok.ids,h.ok.lenW,h.ok.lenR,h.ok.lenK,h.ok.lenI,by
  show cs.length≤_
  rw[hl,←h.like.lenC];exact h.ok.lenC⟩,h.tenE,h.base,h.top0,h.oldT,h.tot,h.src,h.keys,h.nodup,h.vals,h.side,h.head,h.layN,h.layO,h.hdO,h.fld,fun a b hi k hk hq hb hp hy=>(by have:=(h.crd a b hi k hk hq hb hp hy).1;cases this),h.todo⟩
theorem getD_set_ne (l:List Int) (i j:Nat) (v:Int) (h:i≠j):(l.set i v).getD j 0=l.getD j 0:=by
 rw[List.getD_eq_getElem?_getD,List.getD_eq_getElem?_getD,List.getElem?_set_ne h]
theorem getD_set_same (l:List Int) (i:Nat) (v:Int) (h:i<l.length):(l.set i v).getD i 0=v:=by
 rw[List.getD_eq_getElem?_getD,List.getElem?_set_self h];rfl
theorem roots_inv (hr:Ready M0 ten):∀ (n i:Nat) (C:Col),i+n=M0.roots.length→Inv M0 ten C R cl D→C.M.roots.length=M0.roots.length→(∀ j,i≤j→j<M0.roots.length→C.M.roots.getD j 0=M0.roots.getD j 0) →
  (∀ j,j<i→Fol M0 C.mv (M0.roots.getD j 0) (C.M.roots.getD j 0)) →
  CanRoots C i n∧Inv M0 ten (rootsC C i n) R cl D∧(rootsC C i n).M.roots.length=M0.roots.length∧(∀ j,j<M0.roots.length→Fol M0 (rootsC C i n).mv (M0.roots.getD j 0) ((rootsC C i n).M.roots.getD j 0))∧(rootsC C i n).M.cards=C.M.cards
 | 0,i,C,hn,h,hl,h1,h2=>⟨trivial,h,hl,fun j hj=>h2 j (by omega),rfl⟩
 | n+1,i,C,hn,h,hl,h1,h2=>by
  have hu:=h1 i (Nat.le_refl _) (by omega)
  have hg:=(good_parts (chk_zero hr.chk).1).2.2.1
  have hf:fldB (startsM M0) (C.M.roots.getD i 0)=true:=by
   rw[hu]
   unfold fieldsB at hg
   rw[List.all_eq_true] at hg
   exact getD_in hg (by omega)
  have hw:=getD_in (P:=fun x=>0≤x∧x≤18446744073709551615) h.ok.roots (i:=i) (by omega)
  obtain⟨f1,f2,f3,f4,f5,f6,f7⟩:=follow_inv h hr hf
  have hv:=followC_word (C:=C) hw.1 hw.2
  have s2:=f2.setRoots i hv.1 hv.2
  have hfm:∀ {u v:Int},Fol M0 C.mv u v→Fol M0 (followC C (C.M.roots.getD i 0)).2.mv u v:=fun {u v} hf=>by
   rcases hf with q|⟨q1,to,q2,q3⟩
   ·exact Or.inl q
   ·exact Or.inr ⟨q1,to,mlook_of f2.nodupI (f6 _ (mlook_mem q2)),q3⟩
  rw[hu] at f3
  obtain⟨r1,r2,r3,r4,r5⟩:=roots_inv hr n (i+1) _ (by omega) s2 (by show (List.set _ _ _).length=_;rw[List.length_set,f4];exact hl)
   (fun j hj hj2=>by show (List.set _ _ _).getD j 0=_;rw[getD_set_ne _ _ _ _ (by omega),f4];exact h1 j (by omega) hj2)
   (fun j hj=>by
    show Fol M0 (followC C _).2.mv _ ((List.set _ _ _).getD j 0)
    by_cases e:j=i
    ·subst e
     rw[getD_set_same _ _ _ (by rw[f4];omega)]
     rw[hu];exact f3
    ·rw[getD_set_ne _ _ _ _ (by omega),f4];exact hfm (h2 j (by omega)))
  exact⟨⟨⟨by omega,h.ok,h.shp hr⟩,f1,hv,f2.ok,f2.shp hr,r1⟩,r2,r3,r4,r5.trans f5⟩
theorem fromW_mem (hr:Ready M0 ten):∀ a∈fromC M0,∃ x∈(partO M0).1,a=(x.a:Int)∧rawB (hKind (wat M0.W x.a))=false:=fun a ha=>by
 obtain⟨x,hx,rfl⟩:=List.mem_map.1 ha
 obtain⟨hx1,hx2⟩:=List.mem_filter.1 hx
 have e:(2*M0.half+M0.oldTop).toNat=(2*M0.half).toNat+M0.oldTop.toNat:=by
  have:=hr.shp.h1;have:=hr.shp.p1;omega
 rw[e] at hx1
 have hx':x∈(partO M0).1:=hx1
 refine⟨x,hx',rfl,?_⟩
 rw[(hr.inO hx').1] at hx2
 simpa using hx2
theorem fromC_nodup (hr:Ready M0 ten):(fromC M0).Nodup:=by
 have hn:=hr.laidO.nodup
 have e:(2*M0.half+M0.oldTop).toNat=(2*M0.half).toNat+M0.oldTop.toNat:=by
  have:=hr.shp.h1;have:=hr.shp.p1;omega
 unfold fromC
 rw[e]
 unfold List.Nodup at hn ⊢
 rw[List.pairwise_map] at hn ⊢
 exact List.Pairwise.filter _ (hn.imp fun h1 h2=>h1 (by omega))
theorem start_inv (hr:Ready M0 ten):Inv M0 ten (startC M0 ten) (RO M0 (fromC M0)) false []:=by
 obtain⟨hh,e1,e2,e3,e4,e5,e6,e7,e8,e9,e10,e11,e12⟩:=hr.shp.nums
 have hcm:=(chk_zero hr.chk).2
 have key:∀ a b,Img M0 (startC M0 ten).mv a b→a=b∧a∈(partO M0).1.map (·.a):=fun a b hi=>by
  rcases hi with q|q
  ·exact q
  ·simp[startC] at q
 have young:∀ b,b∈(partO M0).1.map (·.a)→∀ k,k<szW M0.W b→rawB (hKind (wat M0.W b))=false→¬Pend (startC M0 ten) (RO M0 (fromC M0)) (b+1+k)→youngB M0 (wat M0.W (b+1+k))=false:=fun b hb k hk hq hp=>by
  obtain⟨x,hx,rfl⟩:=List.mem_map.1 hb
  have hxi:=hr.inO hx
  have hmem:(x.a:Int)∈fromC M0:=by
   unfold fromC
   have e:(2*M0.half+M0.oldTop).toNat=(2*M0.half).toNat+M0.oldTop.toNat:=by omega
   rw[e]
   exact List.mem_map.2 ⟨x,List.mem_filter.2 ⟨hx,by rw[hxi.1,hq];rfl⟩,rfl⟩
  have hct:¬CT M0 (x.a+1+k):=fun hc=>hp (Or.inl ⟨_,hmem,by rw[Int.toNat_natCast];omega,by rw[Int.toNat_natCast];omega,hc⟩)
  unfold cardsM at hcm
  rw[List.all_eq_true] at hcm
  have hc:=hcm x (List.mem_append.2 (Or.inr hx))
  unfold cardsO at hc
  rw[hxi.1,hq,Bool.false_or] at hc
  unfold cardsK at hc
  rw[List.all_eq_true] at hc
  have hc':=hc k (List.mem_range.2 (by unfold Ob.n;rw[hxi.1];exact hk))
  unfold crd at hc'
  have ho:oldB M0 (x.a:Int)=true:=by unfold oldB;exact decide_eq_true (by have:=hxi.2.2.1;unfold hbM at this;omega)
  rw[ho,Bool.true_and] at hc'
  cases hy:youngB M0 (wat M0.W (x.a+1+k)) with
  | false=>rfl
  | true =>
   rw[hy] at hc'
   have:cardB M0 ((x.a:Int)+1+k)=true:=by simpa using hc'
   exfalso
   apply hct
   unfold CT cardI
   unfold cardB at this
   rw[show ((x.a+1+k:Nat):Int)=(x.a:Int)+1+k by omega];exact this
 refine⟨LikeR.refl _,hr.ok,rfl,?_,Int.le_refl _,Int.le_refl _,?_,fun _ _ _=>rfl,fun p hp=>by simp[startC] at hp,by simp[startC],fun p hp=>by simp[startC] at hp,fun p hp=>by simp[startC] at hp,fun p hp=>by simp[startC] at hp,?_,?_,fun _ _=>rfl,?_,?_,rfl⟩
 ·show (1-M0.used)*M0.half=_
  rcases e3 with⟨u1,u2,u3⟩|⟨u1,u2,u3⟩<;>rw[u2,u3,e1]<;>omega
 ·show (0:Int)+(M0.oldTop-M0.oldTop)=_
  simp[startC]
 ·exact rfl
 ·exact rfl
 ·intro a b hi k hk
  obtain⟨rfl,hb⟩:=key a b hi
  refine⟨fun _=>rfl,fun hq=>⟨fun _=>rfl,fun hp=>Or.inl ⟨?_,rfl⟩⟩⟩
  unfold stays
  rw[young a hb k hk hq hp];rfl
 ·intro a b hi k hk hq hb' hp hy
  obtain⟨rfl,hb⟩:=key a b hi
  have hy':youngB M0 (wat M0.W (a+1+k))=true:=hy
  rw[young a hb k hk hq hp] at hy';cases hy'
end
def col1 (M:Mem) (ten:Int):Col:=rootsC (startC M ten) 0 M.roots.length
def col2 (M:Mem) (ten:Int):Col:={col1 M ten with M:={(col1 M ten).M with cards:=List.replicate M.cards.length false}}
def col3 (M:Mem) (ten:Int):Col:=oldsC M.cards (col2 M ten) (fromC M)
def col4 (M:Mem) (ten:Int):Col:=todoC M.top.toNat (col3 M ten)
def collectC (M:Mem) (ten:Int):Mem:={(col4 M ten).M with weak:=weakC (col4 M ten),ids:=idsC (col4 M ten),used:=1-M.used,top:=(col4 M ten).top}
theorem collect_inv {M0:Mem} {ten:Int} (hr:Ready M0 ten) :
  (CanRoots (startC M0 ten) 0 M0.roots.length∧CanOlds M0.cards (col2 M0 ten) (fromC M0)∧CanTodo M0.top.toNat (col3 M0 ten)) ∧
  (col1 M0 ten).M.cards=M0.cards∧part (col1 M0 ten).M.W (hbM M0) (hbM M0+M0.oldTop.toNat)=partO M0∧LikeR M0 (col1 M0 ten).M∧(col1 M0 ten).M.Ok∧Shp (col1 M0 ten).M ∧
  ∃ D,Inv M0 ten (col4 M0 ten) (fun _=>False) true D∧(col4 M0 ten).todo=[]∧(col4 M0 ten).M.roots.length=M0.roots.length∧∀ j,j<M0.roots.length→Fol M0 (col4 M0 ten).mv (M0.roots.getD j 0) ((col4 M0 ten).M.roots.getD j 0):=by
 obtain⟨r1,r2,r3,r4,r5⟩:=roots_inv hr M0.roots.length 0 (startC M0 ten) (by omega) (start_inv hr) rfl (fun _ _ _=>rfl) (fun j hj=>absurd hj (by omega))
 have s2:=r2.setCards (List.replicate M0.cards.length false) (by simp)
 obtain⟨o1,o2,o3,o4⟩:=olds_inv hr (fromC M0) (col2 M0 ten) (fromW_mem hr) (fromC_nodup hr) s2
 obtain⟨t1,D,t2,t3,t4,t5⟩:=todo_inv hr M0.top.toNat (col3 M0 ten) [] o2 (by simp)
 have hro:(col4 M0 ten).M.roots=(col1 M0 ten).M.roots:=t5.trans o4
 refine⟨⟨r1,o1,t1⟩,r5,?_,r2.like,r2.ok,r2.shp hr,D,t2,t3,by rw[hro];exact r3,fun j hj=>?_⟩
 ·have hl:Laid (col1 M0 ten).M.W (hbM M0) ((partO M0).1.map (·.a)) (hbM M0+M0.oldTop.toNat):=hr.laidO.congr fun b hb=>by
   obtain⟨x,hx,rfl⟩:=List.mem_map.1 hb
   exact r2.hdO x hx
  rw[hl.part]
  have h2:(partO M0).2=true:=(parts_true hr.objs).2
  refine Prod.ext ?_ h2.symm
  show List.map (obW (col1 M0 ten).M.W) (List.map (·.a) (partO M0).1)=(partO M0).1
  rw[List.map_map]
  refine (List.map_congr_left fun x hx=>?_).trans (List.map_id _)
  show obW _ x.a=x
  unfold obW
  rw[show wat (col1 M0 ten).M.W x.a=wat M0.W x.a from r2.hdO x hx,←(hr.inO hx).1]
 ·rw[hro]
  rcases r4 j hj with q|⟨q1,to,q2,q3⟩
  ·exact Or.inl q
  ·exact Or.inr ⟨q1,to,mlook_of t2.nodupI (t4 _ (o3 _ (mlook_mem q2))),q3⟩
section
variable {w w':World} {B b:Nat} {tI:TypeId} {M:Mem} {S:Sls}
theorem OMem.fR (h:OMem w B b tI M S):w.ownsRow B 78 1 (.slice S.R.1 M.roots.length S.R.2) M.roots.length (wcells M.roots):=(h.fld ⟨7,78,1,S.R.1,M.roots.length,S.R.2,wcells M.roots⟩ (by simp[memFlds])).2.1
theorem OMem.fK (h:OMem w B b tI M S):w.ownsRow B 78 1 (.slice S.K.1 M.weak.length S.K.2) M.weak.length (wcells M.weak):=(h.fld ⟨8,78,1,S.K.1,M.weak.length,S.K.2,wcells M.weak⟩ (by simp[memFlds])).2.1
theorem OMem.fI (h:OMem w B b tI M S):w.ownsRow B tI 2 (.slice S.I.1 M.ids.length S.I.2) M.ids.length (icells M.ids):=(h.fld ⟨9,tI,2,S.I.1,M.ids.length,S.I.2,icells M.ids⟩ (by simp[memFlds])).2.1
theorem OMem.rowR (h:OMem w B b tI M S) {g:Nat} (hg:S.R.1=some ⟨g,0,none⟩) (hb:But g w w') (l:List Int) (hl:l.length=M.roots.length) (ho:w'.ownsRow B 78 1 (.slice S.R.1 M.roots.length S.R.2) M.roots.length (wcells l)):OMem w' B b tI {M with roots:=l} S:=by
 have:=OM.row (L1:=(memFlds tI M S).take 1) (L2:=(memFlds tI M S).drop 2) (f:=⟨7,78,1,S.R.1,M.roots.length,S.R.2,wcells M.roots⟩) h (g:=g) (by simp[Fld.val,hg,Value.ownBlock]) hb ho
 unfold OMem memFlds
 simp only[hl]
 exact this
theorem OMem.setR (h:OMem w B b tI M S) {g:Nat} (hg:S.R.1=some ⟨g,0,none⟩) (j:Nat) (hj:j<M.roots.length) (x:Int):OMem (w.setCell ⟨g,j,none⟩ (.int .u64 x)) B b tI {M with roots:=M.roots.set j x} S :=
 OMem.rowR h hg (but_set w ⟨g,j,none⟩ _) _ (by simp) (by rw[wcells_set];exact own_setAt h.fR (by simp[hg,Value.ownBlock]) j hj _)
theorem OMem.rowK (h:OMem w B b tI M S) {g:Nat} (hg:S.K.1=some ⟨g,0,none⟩) (hb:But g w w') (l:List Int) (hl:l.length=M.weak.length) (ho:w'.ownsRow B 78 1 (.slice S.K.1 M.weak.length S.K.2) M.weak.length (wcells l)):OMem w' B b tI {M with weak:=l} S:=by
 have:=OM.row (L1:=(memFlds tI M S).take 2) (L2:=(memFlds tI M S).drop 3) (f:=⟨8,78,1,S.K.1,M.weak.length,S.K.2,wcells M.weak⟩) h (g:=g) (by simp[Fld.val,hg,Value.ownBlock]) hb ho
 unfold OMem memFlds
 simp only[hl]
 exact this
theorem OMem.setK (h:OMem w B b tI M S) {g:Nat} (hg:S.K.1=some ⟨g,0,none⟩) (j:Nat) (hj:j<M.weak.length) (x:Int):OMem (w.setCell ⟨g,j,none⟩ (.int .u64 x)) B b tI {M with weak:=M.weak.set j x} S :=
 OMem.rowK h hg (but_set w ⟨g,j,none⟩ _) _ (by simp) (by rw[wcells_set];exact own_setAt h.fK (by simp[hg,Value.ownBlock]) j hj _)
theorem OMem.setUsed (h:OMem w B b tI M S) (v:Int):OMem (w.setCell ⟨b,4,none⟩ (.int .i64 v)) B b tI {M with used:=v} S :=
 OM.setNum (n1:=[(0,M.half),(1,M.old),(2,M.card)]) (n2:=[(5,M.top),(6,M.oldTop)]) h v
theorem OMem.own_size (h:OMem w B b tI M S) {k:Nat} (hk:OwnA b S k):B≤k∧k<w.heap.size:=by
 rcases hk with rfl|hk|hk|hk|hk|hk
 ·exact⟨h.hb,OM.lt h⟩
 ·exact h.fW.lt k (by rw[hk];rfl)
 ·exact h.fR.lt k (by rw[hk];rfl)
 ·exact h.fK.lt k (by rw[hk];rfl)
 ·exact h.fI.lt k (by rw[hk];rfl)
 ·exact h.fC.lt k (by rw[hk];rfl)
theorem OMem.putI (h:OMem w B b tI M S) (a:Option Addr) (c:Nat) (l:List (Int × Int)) (ho:w.ownsRow B tI 2 (.slice a l.length c) l.length (icells l)) (hn:∀ k,(Value.slice a l.length c).ownBlock=some k→¬OwnA b S k) :
  OMem (w.setCell ⟨b,9,none⟩ (.slice a l.length c)) B b tI {M with ids:=l} {S with I:=(a,c)}:=by
 have hnb:(Value.slice a l.length c).ownBlock≠some b:=fun e=>hn b e (Or.inl rfl)
 have hown:∀ f∈memFlds tI M S,∀ k,f.val.ownBlock=some k→OwnA b S k:=fun f hf k hk=>by
  have ho':=(h.fld f hf).2.1
  have ha:f.a=some ⟨k,0,none⟩:=by
   rcases ho'.2 with⟨h2,_⟩|⟨g,cap,cur,hv,_⟩
   ·rw[h2] at hk;cases hk
   ·rw[hv] at hk
    simp[Value.ownBlock] at hk
    subst hk
    unfold Fld.val at hv
    injection hv
  simp only[memFlds,List.mem_cons,List.not_mem_nil,or_false] at hf
  rcases hf with rfl|rfl|rfl|rfl|rfl<;>simp_all [OwnA]
 have hb:=h.fld
 have hp:=h.apart
 have fresh:∀ f∈memFlds tI M S,∀ k,f.val.ownBlock=some k→(Value.slice a l.length c).ownBlock≠some k:=fun f hf k hk e=>hn k e (hown f hf k hk)
 refine⟨h.hb,blk_set h.blk,fun p hpm=>?_,fun f hf=>?_,?_,h.offs⟩
 ·rw[cell_set_off (fun e=>by
   have:p∈memNums M:=hpm
   simp only[memNums,List.mem_cons,List.not_mem_nil,or_false] at this
   rcases this with rfl|rfl|rfl|rfl|rfl|rfl<;>simp at e)]
  exact h.num p hpm
 ·simp only[memFlds,List.mem_cons,List.not_mem_nil,or_false] at hf
  rcases hf with rfl|rfl|rfl|rfl|rfl
  ·have q:=hb ⟨3,78,1,S.W.1,M.W.length,S.W.2,wcells M.W⟩ (by simp[memFlds])
   exact⟨by rw[cell_set_off (by simp)];exact q.1,own_set q.2.1 q.2.2 _,q.2.2⟩
  ·have q:=hb ⟨7,78,1,S.R.1,M.roots.length,S.R.2,wcells M.roots⟩ (by simp[memFlds])
   exact⟨by rw[cell_set_off (by simp)];exact q.1,own_set q.2.1 q.2.2 _,q.2.2⟩
  ·have q:=hb ⟨8,78,1,S.K.1,M.weak.length,S.K.2,wcells M.weak⟩ (by simp[memFlds])
   exact⟨by rw[cell_set_off (by simp)];exact q.1,own_set q.2.1 q.2.2 _,q.2.2⟩
  ·have q:=hb ⟨9,tI,2,S.I.1,M.ids.length,S.I.2,icells M.ids⟩ (by simp[memFlds])
   exact⟨cell_set_same q.1,own_set ho hnb _,hnb⟩
  ·have q:=hb ⟨10,4,1,S.C.1,M.cards.length,S.C.2,bcells M.cards⟩ (by simp[memFlds])
   exact⟨by rw[cell_set_off (by simp)];exact q.1,own_set q.2.1 q.2.2 _,q.2.2⟩
 ·have e:memFlds tI M S=[⟨3,78,1,S.W.1,M.W.length,S.W.2,wcells M.W⟩,⟨7,78,1,S.R.1,M.roots.length,S.R.2,wcells M.roots⟩,⟨8,78,1,S.K.1,M.weak.length,S.K.2,wcells M.weak⟩,⟨9,tI,2,S.I.1,M.ids.length,S.I.2,icells M.ids⟩,⟨10,4,1,S.C.1,M.cards.length,S.C.2,bcells M.cards⟩]:=rfl
  rw[e] at hp fresh
  simp only[List.pairwise_cons,List.mem_cons,List.not_mem_nil,or_false,forall_eq_or_imp,forall_eq,List.Pairwise.nil,and_true] at hp fresh
  obtain⟨⟨a1,a2,a3,a4⟩,⟨b1,b2,b3⟩,⟨c1,c2⟩,d1,-⟩:=hp
  obtain⟨f1,f2,f3,f4,f5⟩:=fresh
  show List.Pairwise _ [_,_,_,_,_]
  simp only[List.pairwise_cons,List.mem_cons,List.not_mem_nil,or_false,forall_eq_or_imp,forall_eq,List.Pairwise.nil,and_true]
  exact⟨⟨a1,a2,f1,a4⟩,⟨b1,f2,b3⟩,⟨f3,c2⟩,fun k hk e=>f5 k e hk,fun _ h=>h.elim⟩
end
section
variable {w w1 wr:World} {B b:Nat} {M:Mem} {S:Sls} {X X':Pl} {C C':Col} {ten:Int}
theorem ocol_start (hO:OMem w B b 140 M S) (hx:Ext w w1) (hB:B≤w.heap.size) :
  At ((w1.alloc (.map #[] 0)).alloc (.cells #[.pointer (some ⟨b,0,none⟩),.int .i64 ten,.int .i64 ((1-M.used)*M.half),.int .i64 0,.map (some w1.heap.size),.slice none 0 0] 151)).drew.drew.drew B b S ⟨w1.heap.size+1,w1.heap.size,.slice none 0 0⟩ ⟨w1.heap.size+1,w1.heap.size,.slice none 0 0⟩ (startC M ten)
   ((w1.alloc (.map #[] 0)).alloc (.cells #[.pointer (some ⟨b,0,none⟩),.int .i64 ten,.int .i64 ((1-M.used)*M.half),.int .i64 0,.map (some w1.heap.size),.slice none 0 0] 151)).drew.drew.drew ∧
  Ext w ((w1.alloc (.map #[] 0)).alloc (.cells #[.pointer (some ⟨b,0,none⟩),.int .i64 ten,.int .i64 ((1-M.used)*M.half),.int .i64 0,.map (some w1.heap.size),.slice none 0 0] 151)).drew.drew.drew:=by
 have hE:Ext w ((w1.alloc (.map #[] 0)).alloc (.cells #[.pointer (some ⟨b,0,none⟩),.int .i64 ten,.int .i64 ((1-M.used)*M.half),.int .i64 0,.map (some w1.heap.size),.slice none 0 0] 151)).drew.drew.drew:=(((hx.alloc_ _).alloc_ _).drew_).drew_.drew_
 have hsz:=hx.size
 have hA:∀ k,OwnA b S k→k<w.heap.size:=fun k hk=>(hO.own_size hk).2
 have hbk:(((w1.alloc (.map #[] 0)).alloc (.cells #[.pointer (some ⟨b,0,none⟩),.int .i64 ten,.int .i64 ((1-M.used)*M.half),.int .i64 0,.map (some w1.heap.size),.slice none 0 0] 151)).drew.drew.drew).heap[w1.heap.size+1]?=some (.cells #[.pointer (some ⟨b,0,none⟩),.int .i64 ten,.int .i64 ((1-M.used)*M.half),.int .i64 0,.map (some w1.heap.size),.slice none 0 0] 151 (0,0)):=by
  have:=heap_alloc_new (w1.alloc (.map #[] 0)) (.cells #[.pointer (some ⟨b,0,none⟩),.int .i64 ten,.int .i64 ((1-M.used)*M.half),.int .i64 0,.map (some w1.heap.size),.slice none 0 0] 151)
  simpa [World.drew] using this
 refine⟨⟨rfl,rfl,⟨OM.ext hO hE,by simp only;omega,by simp only;omega,fun e=>by have:=hA _ e;simp only at this;omega,fun e=>by have:=hA _ e;simp only at this;omega,by simp only;omega,fun k hk=>by simp[Value.ownBlock] at hk,⟨_,151,hbk⟩,?_,?_,?_,?_,?_,?_,?_,Or.inl ⟨rfl,rfl⟩⟩,Keep.refl _ _,fun k hk=>Or.inl hk⟩,hE⟩
 all_goals first|(simp[go_sem,startC];done)|skip
 exact (MapI.made w1 .i64).ext ((((Ext.refl _).alloc_ _).drew_).drew_.drew_)
theorem setR_step (h:OCol w B b C S X) {g:Nat} (hg:S.R.1=some ⟨g,0,none⟩) (j:Nat) (hj:j<C.M.roots.length) (x:Int):CStep w B b S X {C with M:={C.M with roots:=C.M.roots.set j x}} (w.setCell ⟨g,j,none⟩ (.int .u64 x)) :=
 have hA:OwnA b S g:=Or.inr (Or.inr (Or.inl hg))
 have hk:Keep (OwnA b S) w (w.setCell ⟨g,j,none⟩ (.int .u64 x)):=Keep.set_ (Keep.refl _ w) (p:=⟨g,j,none⟩) (Or.inl hA) _
 ⟨X,rfl,rfl,h.onMem (h.mem.setR hg j hj x) hk,hk.sub fun k q=>Or.inl q,fun k q=>Or.inl q⟩
theorem setK_step (h:OCol w B b C S X) {g:Nat} (hg:S.K.1=some ⟨g,0,none⟩) (j:Nat) (hj:j<C.M.weak.length) (x:Int):CStep w B b S X {C with M:={C.M with weak:=C.M.weak.set j x}} (w.setCell ⟨g,j,none⟩ (.int .u64 x)) :=
 have hA:OwnA b S g:=Or.inr (Or.inr (Or.inr (Or.inl hg)))
 have hk:Keep (OwnA b S) w (w.setCell ⟨g,j,none⟩ (.int .u64 x)):=Keep.set_ (Keep.refl _ w) (p:=⟨g,j,none⟩) (Or.inl hA) _
 ⟨X,rfl,rfl,h.onMem (h.mem.setK hg j hj x) hk,hk.sub fun k q=>Or.inl q,fun k q=>Or.inl q⟩
end
theorem followC_roots {C:Col} {a:Int} (hc:CanFollow C a):(followC C a).2.M.roots=C.M.roots:=(followC_like hc).roots
def CollectPost (w:World) (B b:Nat) (S:Sls) (M:Mem) (e:Ending) (w':World):Prop :=
 e=.returned .nilIface∧∃ S':Sls,OMem w' B b 140 M S'∧Keep (OwnA b S) w w'∧∀ k,OwnA b S' k→OwnA b S k∨w.heap.size≤k
theorem from_enters (args:Array Value) (w:World):(callFunc 93 args).run Tryz.prog w=.ok (.enter 93 args) w :=
 enters_of Tryz.func93 (by kernel_rfl) rfl args w
def froms (v:List Ob):List Int:=(v.filter fun x=>!rawB (hKind x.w)).map fun x=>(x.a:Int)
theorem froms_snoc (v:List Ob) (x:Ob):froms (v++[x])=if rawB (hKind x.w) then froms v else froms v++[(x.a:Int)]:=by
 unfold froms
 rw[List.filter_append,List.map_append]
 cases h:rawB (hKind x.w)<;>simp[h]
theorem froms_len (v:List Ob):(froms v).length≤v.length:=by unfold froms;rw[List.length_map];exact List.length_filter_le _ _
def FromEach (w0 w:World) (fb:Nat) (l:List Int) (e:Ending) (w':World):Prop :=
 e=.returned (.bool true)∧∃ v',FromV w' w0.heap.size fb l v'∧Keep (fun k=>w0.heap.size≤k) w w'
theorem from_each (w0:World) (b o:Nat) (M:Mem) (S:Sls) (hM:RMem w0 b o M S) (gb gs:Addr) (hG:GBound w0 gb) (hS:GShape w0 gs) (w:World) (hE:Ext w0 w) (fb:Nat) (v0:Value) (hF:FromV w w0.heap.size fb [] v0)
  (lo hi:Nat) (h1:lo≤hi) (h2:hi≤M.W.length) (hlen:M.W.length≤196608) (hp:(part M.W lo hi).2=true) :
  Calls Tryz.prog 92 #[.pointer (some ⟨b,o,none⟩),.int .i64 (lo:Int),.int .i64 (hi:Int),.func (.func 93) #[] #[.pointer (some ⟨fb,0,none⟩)]] w (FromEach w0 w fb (fromW M.W lo hi)):=by
 have hpl:=part_len M.W (hi-lo) lo hi
 refine (each_walk2 w0 b o M S hM gb gs hG hS (fun k=>w0.heap.size≤k) _ #[.pointer (some ⟨fb,0,none⟩)] from_enters (fun _=>true) (fun v w'=>∃ v',FromV w' w0.heap.size fb (froms v) v')
  w hE (fun k hk=>hk) (fun w' k=>k=fb∨∃ v,w'.cell? ⟨fb,0,none⟩=some v∧v.ownBlock=some k) (fun v w' w'' k hI hx hk=>?_) (fun v w1 w2 ⟨v',hI⟩ hx=>⟨v',hI.ext hx⟩) lo hi h2 hlen [] (fun v x w' hI hK hx hvl=>?_) h1 ⟨v0,hF⟩).mono ?_
 ·obtain⟨v',hI⟩:=hI
  rcases hk with rfl|⟨u,hu,hk⟩
  ·exact hI.lt
  ·rw[hx.cell_ hI.cell] at hu
   injection hu with hu
   subst hu
   exact (hI.row.lt hk).2
 ·obtain⟨v',hI⟩:=hI
  have hfl:=froms_len v
  have hpl':(part M.W lo hi).1.length≤hi-lo:=hpl
  have key:∀ l e w'',FromPost w' w0.heap.size fb v' l e w''→l=froms (v++[x])→e=.returned (.bool true)∧(∃ v',FromV w'' w0.heap.size fb (froms (v++[x])) v')∧Keep (fun k=>w0.heap.size≤k) w' w''∧Keep (fun k=>k=fb∨∃ u,w'.cell? ⟨fb,0,none⟩=some u∧u.ownBlock=some k) w' w'':=fun l e w'' ⟨q1,v2,q2,q3,q4⟩ hl=>by
   subst hl
   refine⟨q1,⟨v2,q2⟩,q3.sub fun k hk=>?_,q3.sub fun k hk=>?_⟩
   ·rcases hk with rfl|hk
    ·exact hI.hb
    ·exact (hI.row.lt hk).1
   ·rcases hk with rfl|hk
    ·exact Or.inl rfl
    ·exact Or.inr ⟨v',hI.cell,hk⟩
  cases hr:rawB (hKind x.w) with
  | true=>exact (from_raw w0.heap.size fb (froms v) v' (x.a:Int) x.w w' hI hr).mono fun e w'' h=>key _ e w'' h (by rw[froms_snoc,hr];rfl)
  | false=>exact (from_more w0.heap.size fb (froms v) v' (x.a:Int) x.w w' hI hr (by simp at hvl;omega)).mono fun e w'' h=>key _ e w'' h (by rw[froms_snoc,hr];rfl)
 ·rintro e w' ⟨v,he,⟨v',hI⟩,hv,hK⟩
  have hall:((part M.W lo hi).2&&(part M.W lo hi).1.all fun _=>true)=true:=by rw[hp];simp
  rw[hall] at he
  have:=hv hall
  subst this
  exact⟨he,v',hI,hK⟩
end Go.Proofs.YtelhoppfidibiaaGreatDoor
