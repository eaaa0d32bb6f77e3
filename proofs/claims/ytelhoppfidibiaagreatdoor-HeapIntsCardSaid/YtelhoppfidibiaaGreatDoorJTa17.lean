/- The builtin clear on an own row; what lies below the collector's own blocks. -/
import Derived.Test.YtelhoppfidibiaaGreatDoorJTa16
import Derived.Lib.SliceRun
import Derived.Test.YtelhoppfidibiaaGreatDoorJTa06
import Derived.Test.YtelhoppfidibiaaGreatDoorJTa07
import Derived.Deep.RegionHeld3
set_option linter.unusedSimpArgs false
set_option linter.unusedVariables false
namespace Go.Proofs.YtelhoppfidibiaaGreatDoor
open Go.RowKit
theorem heap_setCells_row (g:Nat) (t:TypeId):∀ (vs:List Value) (o:Nat) (cur:List Value) (w:World),w.heap[g]?=some (.cells cur.toArray t (0,0))→o+vs.length≤cur.length →
  (w.setCells g o vs).heap[g]?=some (.cells (splice cur o vs).toArray t (0,0))∧But g w (w.setCells g o vs)
 | [],o,cur,w,h,_=>⟨by simpa [World.setCells,splice] using h,rfl,rfl,rfl,rfl,fun _ _=>rfl⟩
 | v::vs,o,cur,w,h,hl=>by
  rw[List.length_cons] at hl
  have h1:=heap_setCell_same w g o cur.toArray t v h
  rw[List.setIfInBounds_toArray] at h1
  obtain⟨h2,h3⟩:=heap_setCells_row g t vs (o+1) (cur.set o v) (w.setCell ⟨g,o,none⟩ v) h1 (by rw[List.length_set];omega)
  refine⟨?_,?_⟩
  ·unfold World.setCells
   rw[h2]
   have e:splice (cur.set o v) (o+1) vs=splice cur o (v::vs):=by
    unfold splice
    have e1:(cur.set o v).take (o+1)=cur.take o++[v]:=by
     rw[List.take_add_one,List.getElem?_set_self (by omega),List.take_set_of_le (Nat.le_refl o)];rfl
    have e2:(cur.set o v).drop (o+1+vs.length)=cur.drop (o+(v::vs).length):=by
     rw[List.length_cons,show o+1+vs.length=o+(vs.length+1) by omega,List.drop_set_of_lt (by omega)]
    rw[e1,e2];simp
   rw[e]
  ·have hb:=but_set w ⟨g,o,none⟩ v
   exact⟨h3.os.trans hb.os,h3.tape.trans hb.tape,h3.output.trans hb.output,h3.size.trans hb.size,fun k hk=>(h3.block k hk).trans (hb.block k hk)⟩
theorem run_clear_but {P:Program} {w:World} (t e:TypeId) (z:Value) (ht:P.underlying t=some (.slice e)) (hv:∀ w,(zeroValue e).run P w=.ok z w) (hz:z.cells=#[z]) (h1:z.oneCell'=true) (g n c:Nat) (cur:List Value) (hn:0<n)
  (hg:w.heap[g]?=some (.cells cur.toArray e (0,0))) (hl:n≤cur.length) :
  ∃ w',(∀ ty,(Builtin.clear_ #[t] ty #[.slice (some ⟨g,0,none⟩) n c]).run P w=.ok (.tuple #[]) w')∧w'.heap[g]?=some (.cells (splice cur 0 (List.replicate n z)).toArray e (0,0))∧But g w w':=by
 have h2:=heap_setCells_row g e (List.replicate n z) 0 cur w hg (by simpa using hl)
 refine⟨_,fun ty=>Lib.run_clear_slice w t e ty z ht hv hz h1 g 0 n c hn (fun j hj=>?_) (fun j hj=>by simp[World.frozen?,hg]),h2.1,h2.2⟩
 rw[Nat.zero_add,cell_of_row w g j cur.toArray e (0,0) hg]
 have:j<cur.length:=by omega
 simp[this]
theorem infoBool:(Tryz.prog.info? 4).map (fun i=>(i.zero,i.size,i.bytes))=some (some (.bool false),1,1):=by kernel_rfl
theorem undBools:Tryz.prog.underlying 64=some (.slice 4):=by kernel_rfl
section
variable {w w1 wr:World} {B b:Nat} {M:Mem} {S:Sls} {X X':Pl} {C C':Col} {ten:Int}
theorem at_glob (h0:OCol w B b C S X) (h:At w B b S X X' C' wr) {p:Addr} {v:Value} (hp:p.block<B) (hc:w.cell? p=some v):wr.cell? p=some v :=
 h.keep.cell (fun hk=>by
  rcases h0.ownC_lt hk with q|q
  ·omega
  ·have:=(h0.mem.own_size q).1;omega) hc
theorem at_from {X1 X2:Pl} {C1 C2:Col} {w2:World} (h:At w B b S X X1 C1 w1) (k:At w1 B b S X1 X2 C2 w2):At w B b S X X2 C2 w2 :=
 ⟨k.c.trans h.c,k.mb.trans h.mb,k.col,h.keep.then_ k.keep fun i hi hk=>(by
  rcases h.own i hk with q|q
  ·exact q
  ·omega),fun i hk=>(by
  rcases k.own i hk with q|q
  ·exact h.own i q
  ·exact Or.inr (Nat.le_trans h.keep.size q))⟩
theorem clear_at {w0:World} {X0:Pl} (ha:At w0 B b S X0 X C w) {g:Nat} (hg:S.C.1=some ⟨g,0,none⟩) {cur:List Value} (hc:w.heap[g]?=some (.cells cur.toArray 4 (0,0))) {n:Nat} (hn:n=C.M.cards.length) (hb:But g w w1) (hw:w1.heap[g]?=some (.cells (splice cur 0 (List.replicate n (.bool false))).toArray 4 (0,0))) :
  At w0 B b S X0 X {C with M:={C.M with cards:=List.replicate n false}} w1:=by
 subst hn
 have h:=ha.col
 have hA:OwnA b S g:=Or.inr (Or.inr (Or.inr (Or.inr (Or.inr hg))))
 have hk:Keep (OwnA b S) w w1:=(Keep.of_but hb).sub fun k hk=>by subst hk;exact hA
 have hr:=own_splice h.mem.fC hg hc 0 (List.replicate C.M.cards.length (.bool false)) (by simp) hw
 have e:splice (bcells C.M.cards) 0 (List.replicate C.M.cards.length (Value.bool false))=bcells (List.replicate C.M.cards.length false):=by
  unfold splice bcells
  have:(C.M.cards.map Value.bool).length=C.M.cards.length:=by simp
  simp
 rw[e] at hr
 exact⟨ha.c,ha.mb,h.onMem (h.mem.rowC hg hb _ (by simp) hr) hk,ha.keep.then_ (hk.sub fun k q=>Or.inl q) fun i hi hk=>(by
  rcases ha.own i hk with q|q
  ·exact q
  ·omega),ha.own⟩
theorem at_here (h:OCol w B b C S X):At w B b S X X C w:=⟨rfl,rfl,h,Keep.refl _ _,fun k hk=>Or.inl hk⟩
theorem at_base {C1:Col} {X1:Pl} (h:At w B b S X X1 C1 w1):At w1 B b S X1 X1 C1 w1:=at_here h.col
end
theorem Tail.read {w:World} {B:Nat} {e:TypeId} {a:Option Addr} {n c:Nat} {xs:List Value} (h:Tail w B e (.slice a n c) xs):n=xs.length∧RSl w a xs:=by
 rcases h with⟨h1,rfl⟩|⟨g,off,cap,cur,h1,q1,q2,q3,q4,q5,q6⟩
 ·injection h1 with h1 h2 _
  exact⟨h2,by rw[h1];exact RSl.nil _ _⟩
 ·injection h1 with h1 h2 _
  subst h1 h2
  refine⟨rfl,fun j u hu=>⟨g,off,rfl,?_⟩⟩
  rw[cell_of_row w g _ cur e (0,0) q2]
  rw[←q6,List.getElem?_take] at hu
  split at hu
  ·simpa using hu
  ·cases hu
theorem shapeB_of {M:Mem} (h:Shp M):shapeB M=true:=by
 obtain⟨h1,h2,o1,o2,c1,c2,w,u1,u2,t1,t2,p1,p2,cl⟩:=h
 simp only[shapeB,Bool.and_eq_true,inR_true,beq_iff_eq]
 exact⟨⟨⟨⟨⟨⟨⟨⟨h1,h2⟩,o1,o2⟩,c1,c2⟩,w⟩,u1,u2⟩,t1,t2⟩,p1,p2⟩,cl⟩
def idGood (st:List Int) (x:Int × Int):Prop:=kindW x.1=0∧x.1≠0∧inSt st (placeW x.1)=true∧1≤x.2
def idApart (y x:Int × Int):Prop:=y.1≠x.1∧y.2≠x.2
theorem inSt_iff (st:List Int) (a:Int):inSt st a=true↔a∈st:=List.contains_iff_mem
theorem idOK_iff (st:List Int) (pre:List (Int × Int)) (x:Int × Int):idOK st pre x=true↔idGood st x∧∀ y∈pre,idApart y x:=by
 have e1:inSt (pre.map (·.1)) x.1=false↔∀ y∈pre,y.1≠x.1:=by
  rw[Bool.eq_false_iff,Ne,inSt_iff]
  constructor
  ·intro h y hy e;exact h (List.mem_map.2 ⟨y,hy,e⟩)
  ·intro h hm;obtain⟨y,hy,e⟩:=List.mem_map.1 hm;exact h y hy e
 have e2:inSt (pre.map (·.2)) x.2=false↔∀ y∈pre,y.2≠x.2:=by
  rw[Bool.eq_false_iff,Ne,inSt_iff]
  constructor
  ·intro h y hy e;exact h (List.mem_map.2 ⟨y,hy,e⟩)
  ·intro h hm;obtain⟨y,hy,e⟩:=List.mem_map.1 hm;exact h y hy e
 unfold idOK idGood idApart
 simp only[Bool.and_eq_true,Bool.not_eq_true',Bool.or_eq_false_iff,bne_eq_false_iff_eq,beq_eq_false_iff_ne,decide_eq_false_iff_not,Bool.not_eq_false',e1,e2]
 constructor
 ·rintro⟨⟨⟨⟨⟨h1,h2⟩,h3⟩,h4⟩,h5⟩,h6⟩
  refine⟨⟨h1,h2,?_,by omega⟩,fun y hy=>⟨h5 y hy,h6 y hy⟩⟩
  unfold fldB at h3
  rw[if_pos h1] at h3
  simpa [h2] using h3
 ·rintro⟨⟨h1,h2,h3,h4⟩,h5⟩
  refine⟨⟨⟨⟨⟨h1,h2⟩,?_⟩,by omega⟩,fun y hy=>(h5 y hy).1⟩,fun y hy=>(h5 y hy).2⟩
  unfold fldB
  rw[if_pos h1,h3];simp
theorem idsB_iff (st:List Int):∀ (pre l:List (Int × Int)),idsB st pre l=true↔(∀ x∈l,idGood st x∧∀ y∈pre,idApart y x)∧l.Pairwise idApart
 | pre,[]=>by simp[idsB]
 | pre,x::l=>by
  rw[idsB,Bool.and_eq_true,idOK_iff,idsB_iff st (pre++[x]) l,List.pairwise_cons]
  constructor
  ·rintro⟨h1,h2,h3⟩
   refine⟨fun y hy=>?_,fun y hy=>?_,h3⟩
   ·rcases List.mem_cons.1 hy with rfl|hy
    ·exact h1
    ·exact⟨(h2 y hy).1,fun z hz=>(h2 y hy).2 z (by simp[hz])⟩
   ·exact (h2 y hy).2 x (by simp)
  ·rintro⟨h1,h2,h3⟩
   refine⟨h1 x (by simp),fun y hy=>⟨(h1 y (by simp[hy])).1,fun z hz=>?_⟩,h3⟩
   rcases List.mem_append.1 hz with hz|hz
   ·exact (h1 y (by simp[hy])).2 z hz
   ·rw[List.mem_singleton.1 hz];exact h2 y hy
structure Fin_ (M0:Mem) (ten:Int) (C:Col):Prop where
 inv:∃ D,Inv M0 ten C (fun _=>False) true D
 todo:C.todo=[]
 rootsL:C.M.roots.length=M0.roots.length
 roots:∀ j,j<M0.roots.length→Fol M0 C.mv (M0.roots.getD j 0) (C.M.roots.getD j 0)
def finM (M0:Mem) (C:Col):Mem:={C.M with weak:=weakC C,ids:=idsC C,used:=1-M0.used,top:=C.top}
theorem collectC_fin (M0:Mem) (ten:Int):collectC M0 ten=finM M0 (col4 M0 ten):=rfl
section
variable {M0:Mem} {ten:Int} {C:Col}
theorem Fin_.pend (h:Fin_ M0 ten C) (i:Nat):¬Pend C (fun _=>False) i:=fun q=>by
 rcases q with q|⟨b,hb,_⟩
 ·exact q
 ·rw[h.todo] at hb;simp at hb
theorem Fin_.fld (h:Fin_ M0 ten C) {a b:Nat} (hi:Img M0 C.mv a b) {k:Nat} (hk:k<szW M0.W a) :
  (rawB (hKind (wat M0.W a))=true→wat C.M.W (b+1+k)=wat M0.W (a+1+k))∧(rawB (hKind (wat M0.W a))=false→Fol M0 C.mv (wat M0.W (a+1+k)) (wat C.M.W (b+1+k))):=by
 obtain⟨D,hv⟩:=h.inv
 obtain⟨q1,q2⟩:=hv.fld a b hi k hk
 exact⟨q1,fun hq=>(q2 hq).2 (h.pend _)⟩
theorem Fin_.shp (h:Fin_ M0 ten C) (hr:Ready M0 ten):Shp (finM M0 C):=by
 obtain⟨D,hv⟩:=h.inv
 have hs:=hv.shp hr
 have ht:=hv.totle hr
 have h0:=hv.top0
 have h1:=hv.oldT
 have s0:=hr.shp
 have:=s0.u1;have:=s0.u2;have:=s0.t2;have:=s0.t1
 exact⟨hs.h1,hs.h2,hs.o1,hs.o2,hs.c1,hs.c2,hs.w,by show 0≤1-M0.used;omega,by show 1-M0.used≤1;omega,h0,by show C.top≤C.M.half;rw[hv.like.half];omega,hs.p1,hs.p2,hs.cl⟩
theorem Fin_.base (h:Fin_ M0 ten C):(finM M0 C).base=nbM M0:=by
 obtain⟨D,hv⟩:=h.inv
 unfold Mem.base finM nbM
 simp only
 rw[hv.like.half]
theorem Fin_.parts (h:Fin_ M0 ten C) (hr:Ready M0 ten):partN (finM M0 C)=((LNl M0 C.mv).map (obW C.M.W),true)∧partO (finM M0 C)=(((partO M0).1.map (·.a)++LOl M0 C.mv).map (obW C.M.W),true):=by
 have hb:=h.base
 obtain⟨D,hv⟩:=h.inv
 constructor
 ·unfold partN
  rw[hb]
  exact hv.layN.part
 ·unfold partO
  show part C.M.W (2*C.M.half).toNat ((2*C.M.half).toNat+C.M.oldTop.toNat)=_
  rw[hv.like.half]
  exact (hv.olds hr).part
theorem Fin_.mem (h:Fin_ M0 ten C) (hr:Ready M0 ten) (y:Ob):y∈objsAll (finM M0 C)↔(∃ a,Img M0 C.mv a y.a)∧y=obW C.M.W y.a:=by
 obtain⟨p1,p2⟩:=h.parts hr
 obtain⟨D,hv⟩:=h.inv
 unfold objsAll
 rw[p1,p2,←List.map_append]
 constructor
 ·intro hm
  obtain⟨b,hb,rfl⟩:=List.mem_map.1 hm
  refine⟨?_,rfl⟩
  have key:∀ p∈C.mv,Img M0 C.mv p.1.toNat p.2.toNat:=fun p hp=>Or.inr (by
   obtain⟨y,hy,e⟩:=hv.keys p hp
   rw[Int.toNat_of_nonneg (by omega),Int.toNat_of_nonneg (hv.vals p hp)];exact hp)
  rcases List.mem_append.1 hb with hb|hb
  ·obtain⟨p,hp,rfl⟩:=List.mem_map.1 hb
   exact⟨_,key p (List.mem_filter.1 hp).1⟩
  ·rcases List.mem_append.1 hb with hb|hb
   ·exact⟨b,Or.inl ⟨rfl,hb⟩⟩
   ·obtain⟨p,hp,rfl⟩:=List.mem_map.1 hb
    exact⟨_,key p (List.mem_filter.1 hp).1⟩
 ·rintro⟨⟨a,hi⟩,e⟩
  rw[e]
  refine List.mem_map_of_mem ?_
  rcases hv.place hr hi with⟨q,_⟩|⟨q,_⟩
  ·exact List.mem_append.2 (Or.inl q)
  ·exact List.mem_append.2 (Or.inr q)
theorem Fin_.starts (h:Fin_ M0 ten C) (hr:Ready M0 ten) {a b:Nat} (hi:Img M0 C.mv a b):inSt (startsM (finM M0 C)) (b:Int)=true:=by
 rw[inSt_iff]
 exact List.mem_map.2 ⟨obW C.M.W b,(h.mem hr _).2 ⟨⟨a,hi⟩,rfl⟩,rfl⟩
theorem Fin_.small (h:Fin_ M0 ten C) (hr:Ready M0 ten) {a b:Nat} (hi:Img M0 C.mv a b):b≤1000000:=by
 obtain⟨D,hv⟩:=h.inv
 have:=hv.inW hr hi
 obtain⟨hh,e1,e2,e3,e4,e5,e6,e7,e8,e9,e10,e11,e12⟩:=hr.shp.nums
 have:=hv.like.lenW
 omega
theorem Fin_.cor (h:Fin_ M0 ten C) (hr:Ready M0 ten) {u v:Int} (hf:fldB (startsM M0) u=true) (hv:Fol M0 C.mv u v) :
  ((kindW u≠0∨u=0)∧v=u)∨∃ a b:Nat,kindW u=0∧u≠0∧placeW u=(a:Int)∧Img M0 C.mv a b∧kindW v=0∧v≠0∧placeW v=(b:Int)∧(∃ x∈objsAll M0,x.a=a)∧v=(if youngB M0 u then addrW (b:Int) else u):=by
 by_cases hk:kindW u=0
 ·by_cases hu:u=0
  ·left
   refine⟨Or.inr hu,?_⟩
   rcases hv with⟨_,e⟩|⟨hs,_⟩
   ·exact e
   ·exfalso;subst hu;simp[stays,youngB] at hs
  ·right
   have hin:placeW u∈startsM M0:=by
    unfold fldB at hf
    rw[if_pos hk] at hf
    simp only[Bool.or_eq_true,beq_iff_eq] at hf
    rcases hf with q|q
    ·exact absurd q hu
    ·exact List.contains_iff_mem.1 q
   obtain⟨x,hx,hxe⟩:=List.mem_map.1 hin
   rcases hv with⟨hs,e⟩|⟨hs,to,hl,e⟩
   ·have ho:2*M0.half≤placeW u:=by
     unfold stays youngB oldB at hs
     have k1:(kindW u==0)=true:=by simpa using hk
     have k2:(u != 0)=true:=by simpa using hu
     rw[k1,k2] at hs
     simpa using hs
    have hxO:x∈(partO M0).1:=by
     unfold objsAll at hx
     rcases List.mem_append.1 hx with q|q
     ·have:=hr.inN q
      obtain⟨hh,e1,e2,e3,e4,e5,e6,e7,e8,e9,e10,e11,e12⟩:=hr.shp.nums
      rcases e3 with⟨u1,u2,u3⟩|⟨u1,u2,u3⟩<;>omega
     ·exact q
    subst e
    refine⟨x.a,x.a,hk,hu,hxe.symm,Or.inl ⟨rfl,List.mem_map_of_mem (f:=(·.a)) hxO⟩,hk,hu,hxe.symm,⟨x,hx,rfl⟩,?_⟩
    have:youngB M0 v=false:=by unfold stays at hs;simpa using hs
    rw[this];rfl
   ·obtain⟨D,hv⟩:=h.inv
    have hm:=mlook_mem hl
    obtain⟨y,hy,ey⟩:=hv.keys _ hm
    have h0:=hv.vals _ hm
    simp only at h0 ey
    have hi:Img M0 C.mv x.a to.toNat:=Or.inr (by rw[Int.toNat_of_nonneg h0,hxe];exact hm)
    have hs':=h.small hr hi
    have hp:=placeW_addrW to ⟨h0,by omega⟩
    have hw:=addrW_wd to
    refine⟨x.a,to.toNat,hk,hu,hxe.symm,hi,by rw[e];exact hw.2.2,?_,by rw[e,hp];omega,⟨x,hx,rfl⟩,?_⟩
    ·rw[e];unfold addrW;omega
    ·have:youngB M0 u=true:=by unfold stays at hs;simpa using hs
     rw[this,Int.toNat_of_nonneg h0];exact e
 ·left
  refine⟨Or.inl hk,?_⟩
  rcases hv with⟨_,e⟩|⟨hs,_⟩
  ·exact e
  ·exfalso
   have k1:(kindW u==0)=false:=by simpa using hk
   simp[stays,youngB,k1] at hs
theorem Fin_.fldB_ (h:Fin_ M0 ten C) (hr:Ready M0 ten) {u v:Int} (hf:fldB (startsM M0) u=true) (hv:Fol M0 C.mv u v):fldB (startsM (finM M0 C)) v=true:=by
 rcases h.cor hr hf hv with⟨q,e⟩|⟨a,b,q1,q2,q3,q4,q5,q6,q7,q8⟩
 ·subst e
  unfold fldB at hf ⊢
  rcases q with q|q
  ·rw[if_neg q] at hf ⊢;exact hf
  ·subst q;simp[kindW]
 ·unfold fldB
  rw[if_pos q5,q7,h.starts hr q4];simp
theorem last_fol {M0:Mem} {C:Col} (hl:LikeR M0 C.M) {u:Int} (h:(lastC C u).2=true):Fol M0 C.mv u (lastC C u).1:=by
 unfold lastC at h ⊢
 rw[hl.stays]at h ⊢
 cases hs:stays M0 u with
 | true=>exact Or.inl ⟨hs,by simp⟩
 | false =>
  rw[hs] at h
  cases hm:mlook C.mv (placeW u) with
  | none=>rw[hm] at h;simp at h
  | some to=>exact Or.inr ⟨hs,to,hm,by simp⟩
theorem Fin_.ok (h:Fin_ M0 ten C) (hr:Ready M0 ten):(finM M0 C).Ok:=by
 have hs:=h.shp hr
 obtain⟨D,hv⟩:=h.inv
 have ho:=hv.ok
 have hw:=hv.like.weak
 have hi:=hv.like.ids
 have lastw:∀ u:Int,0≤u∧u≤18446744073709551615→0≤(lastC C u).1∧(lastC C u).1≤18446744073709551615:=fun u hu=>by
  unfold lastC
  split
  ·exact hu
  ·split<;>exact addrW_u64 _
 have h1:=hs.h1;have h2:=hs.h2;have h3:=hs.t1;have h4:=hs.t2;have h5:=hs.u1;have h6:=hs.u2
 refine⟨ho.half,ho.old,ho.card,by omega,by omega,ho.oldTop,ho.W,ho.roots,fun x hx=>?_,fun x hx=>?_,ho.lenW,ho.lenR,?_,?_,ho.lenC⟩
 ·obtain⟨u,hu,rfl⟩:=List.mem_map.1 hx
  split
  ·exact lastw u (ho.weak u hu)
  ·omega
 ·obtain⟨u,hu,e⟩:=List.mem_filterMap.1 hx
  split at e
  ·injection e with e
   subst e
   exact⟨lastw _ (ho.ids u hu).1,(ho.ids u hu).2⟩
  ·cases e
 ·show (weakC C).length≤_
  unfold weakC
  rw[List.length_map];exact ho.lenK
 ·show (idsC C).length≤_
  unfold idsC
  exact Nat.le_trans (List.length_filterMap_le _ _) ho.lenI
theorem Fin_.chk (h:Fin_ M0 ten C) (hr:Ready M0 ten):chk (finM M0 C)=0:=by
 have hg:=good_parts (chk_zero hr.chk).1
 have hsh:=h.shp hr
 obtain⟨p1,p2⟩:=h.parts hr
 obtain⟨D,hv⟩:=h.inv
 have hob:objsB (finM M0 C) (okHd (finM M0 C))=true:=by
  have hall:(objsAll (finM M0 C)).all (okHd (finM M0 C))=true:=by
   rw[List.all_eq_true]
   intro y hy
   obtain⟨⟨a,hi⟩,e⟩:=(h.mem hr y).1 hy
   obtain⟨d1,d2,d3,d4,d5⟩:=hv.hd hr hi
   have ew:y.w=wat C.M.W y.a:=by rw[e];rfl
   unfold okHd
   rw[ew,d5]
   simp only[beq_self_eq_true,Bool.true_and,Bool.or_eq_true,beq_iff_eq,Bool.not_eq_true']
   by_cases ho:2*M0.half≤(y.a:Int)
   ·left
    rcases hi with⟨rfl,hm⟩|hm
    ·obtain⟨x,hx,ex⟩:=List.mem_map.1 hm
     rw[←ex,hv.hdO x hx];exact (hr.inO hx).2.2.2.2.2
    ·have e1:=hv.head _ hm
     have e2:=(hv.side _ hm).1 ho
     simp only[Int.toNat_natCast] at e1 e2
     obtain⟨x,hx,ex⟩:=hv.keyN hm
     rw[e1,(newHd_hd (ten:=ten) (wat_in hr.ok a).1 d1).2.2.1,if_pos e2]
   ·right
    unfold oldB
    exact decide_eq_false (by show ¬2*C.M.half≤_;rw[hv.like.half];exact ho)
  unfold objsAll at hall
  rw[List.all_append,Bool.and_eq_true] at hall
  unfold objsB
  rw[hall.1,hall.2,p1,p2];rfl
 have hro:fieldsB (startsM (finM M0 C)) (finM M0 C).roots=true:=by
  unfold fieldsB
  rw[List.all_eq_true]
  intro v hvm
  obtain⟨j,hj,e⟩:=List.getElem_of_mem (show v∈C.M.roots from hvm)
  have hj':j<C.M.roots.length:=hj
  rw[h.rootsL] at hj'
  have hf:=h.roots j hj'
  have e2:C.M.roots.getD j 0=v:=by rw[List.getD_eq_getElem?_getD,List.getElem?_eq_getElem hj];exact e
  rw[e2] at hf
  refine h.fldB_ hr ?_ hf
  have:=hg.2.2.1
  unfold fieldsB at this
  rw[List.all_eq_true] at this
  exact getD_in this hj'
 have hwk:fieldsB (startsM (finM M0 C)) (finM M0 C).weak=true:=by
  unfold fieldsB
  rw[List.all_eq_true]
  intro v hvm
  obtain⟨u,hu,rfl⟩:=List.mem_map.1 (show v∈weakC C from hvm)
  have hu':fldB (startsM M0) u=true:=by
   have:=hg.2.2.2.1
   unfold fieldsB at this
   rw[List.all_eq_true] at this
   exact this u (by rw[←hv.like.weak];exact hu)
  split
  ·rename_i hl
   exact h.fldB_ hr hu' (last_fol hv.like hl)
  ·simp[fldB,kindW]
 have hfl:(objsAll (finM M0 C)).all (okFld (finM M0 C) (startsM (finM M0 C)))=true:=by
  rw[List.all_eq_true]
  intro y hy
  obtain⟨⟨a,hi⟩,e⟩:=(h.mem hr y).1 hy
  obtain⟨d1,d2,d3,d4,d5⟩:=hv.hd hr hi
  have ew:y.w=wat C.M.W y.a:=by rw[e];rfl
  unfold okFld
  cases hq:rawB (hKind y.w) with
  | true=>rfl
  | false =>
   rw[Bool.false_or]
   unfold fieldsB flds
   rw[List.all_eq_true]
   intro v hvm
   obtain⟨k,hk,rfl⟩:=List.mem_map.1 hvm
   rw[ew,d3] at hq
   have hk':k<szW M0.W a:=by
    have:=List.mem_range.1 hk
    rw[←d4];unfold Ob.n at this;rw[ew] at this;exact this
   exact h.fldB_ hr (hv.fldB_ hr hi hq hk') ((h.fld hi hk').2 hq)
 have hid:idsB (startsM (finM M0 C)) [] (finM M0 C).ids=true:=by
  have h0:=(idsB_iff _ _ _).1 hg.2.2.2.2.2
  have hcor:∀ x∈M0.ids,(lastC C x.1).2=true→∃ a b:Nat,placeW x.1=(a:Int)∧Img M0 C.mv a b∧kindW (lastC C x.1).1=0∧(lastC C x.1).1≠0∧placeW (lastC C x.1).1=(b:Int)∧kindW x.1=0:=fun x hx hl=>by
   obtain⟨g1,g2,g3,g4⟩:=(h0.1 x hx).1
   have hf:fldB (startsM M0) x.1=true:=by unfold fldB;rw[if_pos g1,g3];simp
   rcases h.cor hr hf (last_fol hv.like hl) with⟨q,_⟩|⟨a,b,q1,q2,q3,q4,q5,q6,q7,q8⟩
   ·rcases q with q|q
    ·exact absurd g1 q
    ·exact absurd q g2
   ·exact⟨a,b,q3,q4,q5,q6,q7,q1⟩
  rw[idsB_iff]
  show (∀ x∈idsC C,_)∧(idsC C).Pairwise idApart
  unfold idsC
  rw[hv.like.ids]
  constructor
  ·intro y hy
   obtain⟨x,hx,e⟩:=List.mem_filterMap.1 hy
   split at e
   ·rename_i hl
    injection e with e
    subst e
    obtain⟨a,b,q1,q2,q3,q4,q5,_⟩:=hcor x hx hl
    exact⟨⟨q3,q4,by rw[q5];exact h.starts hr q2,(h0.1 x hx).1.2.2.2⟩,fun z hz=>by simp at hz⟩
   ·cases e
  ·refine List.Pairwise.filterMap _ (S:=idApart) (fun p q hpq b hb b' hb'=>?_) (List.Pairwise.imp_of_mem (S:=fun p q=>p∈M0.ids∧q∈M0.ids∧idApart p q) (fun hp hq' hpq=>⟨hp,hq',hpq⟩) h0.2)
   obtain⟨hp,hq,hap⟩:=hpq
   split at hb
   ·rename_i hl
    split at hb'
    ·rename_i hl'
     injection hb with hb
     injection hb' with hb'
     subst hb hb'
     obtain⟨a,c,q1,q2,q3,q4,q5,q6⟩:=hcor p hp hl
     obtain⟨a',c',r1,r2,r3,r4,r5,r6⟩:=hcor q hq hl'
     refine⟨fun e=>?_,hap.2⟩
     simp only at e
     rw[e,r5] at q5
     have ec:c'=c:=by omega
     subst ec
     have ea:=hv.inj hr q2 r2
     subst ea
     apply hap.1
     unfold placeW at q1 r1
     unfold kindW at q6 r6
     omega
    ·cases hb'
   ·cases hb
 have hcd:cardsM (finM M0 C)=true:=by
  unfold cardsM
  rw[List.all_eq_true]
  intro y hy
  obtain⟨⟨a,hi⟩,e⟩:=(h.mem hr y).1 hy
  obtain⟨d1,d2,d3,d4,d5⟩:=hv.hd hr hi
  have ew:y.w=wat C.M.W y.a:=by rw[e];rfl
  unfold cardsO
  cases hq:rawB (hKind y.w) with
  | true=>rfl
  | false =>
   rw[Bool.false_or]
   unfold cardsK
   rw[List.all_eq_true]
   intro k hk
   rw[ew,d3] at hq
   have hk':k<szW M0.W a:=by
    have:=List.mem_range.1 hk
    rw[←d4];unfold Ob.n at this;rw[ew] at this;exact this
   unfold crd
   cases ho:oldB (finM M0 C) (y.a:Int) with
   | false=>rfl
   | true =>
    cases hyo:youngB (finM M0 C) (wat (finM M0 C).W (y.a+1+k)) with
    | false=>rfl
    | true =>
     have hb:hbM M0≤y.a:=by
      unfold oldB at ho
      have:=of_decide_eq_true ho
      have e1:(finM M0 C).half=M0.half:=hv.like.half
      rw[e1] at this
      unfold hbM;omega
     have hyo':youngB M0 (wat C.M.W (y.a+1+k))=true:=by
      have e1:youngB (finM M0 C) (wat (finM M0 C).W (y.a+1+k))=youngB C.M (wat C.M.W (y.a+1+k)):=rfl
      rw[e1,hv.like.young] at hyo;exact hyo
     have:=(hv.crd a y.a hi k hk' hq hb (h.pend _) hyo').2
     have e2:cardB (finM M0 C) ((y.a:Int)+1+k)=true:=by
      rw[show (y.a:Int)+1+k=((y.a+1+k:Nat):Int) by omega];exact this
     rw[e2];rfl
 have hgood:goodB (finM M0 C)=true:=by
  unfold goodB
  rw[shapeB_of hsh,hob,hro,hwk,hfl,hid];rfl
 unfold Go.Proofs.YtelhoppfidibiaaGreatDoor.chk
 rw[hgood,hcd];rfl
end
theorem collect_fin {M0:Mem} {ten:Int} (hr:Ready M0 ten):Fin_ M0 ten (col4 M0 ten):=by
 obtain⟨_,_,_,_,_,_,D,h1,h2,h3,h4⟩:=collect_inv hr
 exact⟨⟨D,h1⟩,h2,h3,h4⟩
theorem infoF0:(Tryz.prog.info? 78).map (fun i=>(i.zero,i.size,i.bytes))=some (some (.int .u64 0),1,8):=by kernel_rfl
theorem und0:Tryz.prog.underlying 76=some (.slice 78):=by kernel_rfl
theorem OM.push {w w1:World} {B b:Nat} {nums:List (Nat × Int)} {L1 L2:List Fld} {f:Fld} (h:OM w B b nums (L1++f::L2)) (a':Option Addr) (n' c':Nat) (cs':List Value)
  (hg:w.grownBy w1 f.val.ownBlock) (ho:w1.ownsRow B f.e f.size (.slice a' n' c') n' cs') (hnew:(Value.slice a' n' c').ownBlock=f.val.ownBlock∨(Value.slice a' n' c').ownBlock=some w.heap.size) :
  OM (w1.setCell ⟨b,f.off,none⟩ (.slice a' n' c')) B b nums (L1++⟨f.off,f.e,f.size,a',n',c',cs'⟩::L2):=by
 have hlt:=h.lt
 have hap:=h.apart
 have hfb:=(h.fld f (by simp)).2.2
 have hother:∀ g∈L1++L2,∀ k,g.val.ownBlock=some k→f.val.ownBlock≠some k:=fun g hgm k hk e=>by
  rw[List.pairwise_append,List.pairwise_cons] at hap
  rcases List.mem_append.1 hgm with q|q
  ·exact hap.2.2 g q f (by simp) k hk e
  ·exact hap.2.1.1 g q k e hk
 have hbk:w1.heap[b]?=w.heap[b]?:=hg.block b hlt (fun e=>hfb e.symm)
 have hnb:(Value.slice a' n' c').ownBlock≠some b:=by
  rcases hnew with e|e
  ·rw[e];exact hfb
  ·rw[e];simp;omega
 have hold:∀ g∈L1++L2,∀ k,g.val.ownBlock=some k→(Value.slice a' n' c').ownBlock≠some k:=fun g hgm k hk=>by
  have h1:g∈L1++f::L2:=by rcases List.mem_append.1 hgm with q|q<;>simp[q]
  have:=((h.fld g h1).2.1.lt k hk).2
  rcases hnew with e|e
  ·rw[e];exact hother g hgm k hk
  ·rw[e];simp;omega
 have hrow:∀ g∈L1++L2,w1.ownsRow B g.e g.size g.val g.n g.cs:=fun g hgm=>by
  have h1:g∈L1++f::L2:=by rcases List.mem_append.1 hgm with q|q<;>simp[q]
  refine (h.fld g h1).2.1.kept hg ?_
  rcases hv:g.val.ownBlock with _|k
  ·exact Or.inl rfl
  ·exact Or.inr fun e=>hother g hgm k hv e.symm
 have hoffs:=h.offs
 have hfoff:∀ p∈nums,p.1≠f.off:=fun p hp e=>by
  rw[List.nodup_append] at hoffs
  exact hoffs.2.2 p.1 (List.mem_map_of_mem hp) f.off (List.mem_map_of_mem (by simp)) e
 have hgoff:∀ g∈L1++L2,g.off≠f.off:=fun g hgm e=>by
  have:=(List.nodup_append.1 hoffs).2.1
  simp only[List.map_append,List.map_cons] at this
  rw[List.nodup_append,List.nodup_cons] at this
  rcases List.mem_append.1 hgm with q|q
  ·exact this.2.2 g.off (List.mem_map_of_mem q) f.off (by simp) e
  ·exact this.2.1.1 (by rw[←e];exact List.mem_map_of_mem q)
 have hcell:∀ j v,w.cell? ⟨b,j,none⟩=some v→w1.cell? ⟨b,j,none⟩=some v:=fun j v hc=>by
  rw[World.cell?_of_block (w:=w) (a:=⟨b,j,none⟩) hbk];exact hc
 have hblk:∃ cur t,w1.heap[b]?=some (.cells cur t (0,0)):=by rw[hbk];exact h.blk
 have hgood:∀ g∈L1++L2,(w1.setCell ⟨b,f.off,none⟩ (.slice a' n' c')).cell? ⟨b,g.off,none⟩=some g.val∧(w1.setCell ⟨b,f.off,none⟩ (.slice a' n' c')).ownsRow B g.e g.size g.val g.n g.cs∧g.val.ownBlock≠some b:=fun g hgm=>by
  have h1:g∈L1++f::L2:=by rcases List.mem_append.1 hgm with q|q<;>simp[q]
  refine⟨?_,own_set (hrow g hgm) (h.fld g h1).2.2 _,(h.fld g h1).2.2⟩
  rw[cell_set_off (hgoff g hgm).symm];exact hcell _ _ (h.fld g h1).1
 refine⟨h.hb,blk_set hblk,fun p hp=>?_,fun g hgm=>?_,?_,?_⟩
 ·rw[cell_set_off (hfoff p hp).symm];exact hcell _ _ (h.num p hp)
 ·rcases List.mem_append.1 hgm with q|q
  ·exact hgood g (List.mem_append_left _ q)
  ·rcases List.mem_cons.1 q with rfl|q
   ·exact⟨cell_set_same (hcell _ _ (h.fld f (by simp)).1),own_set ho hnb _,hnb⟩
   ·exact hgood g (List.mem_append_right _ q)
 ·rw[List.pairwise_append,List.pairwise_cons] at hap ⊢
  obtain⟨p1,⟨p2,p3⟩,p4⟩:=hap
  refine⟨p1,⟨fun g hgm k hk e=>?_,p3⟩,fun g hg1 g' hg' k hk=>?_⟩
  ·exact hold g (by simp[hgm]) k e hk
  ·rcases List.mem_cons.1 hg' with rfl|hg'
   ·exact hold g (by simp[hg1]) k hk
   ·exact p4 g hg1 g' (by simp[hg']) k hk
 ·simpa using hoffs
end Go.Proofs.YtelhoppfidibiaaGreatDoor
