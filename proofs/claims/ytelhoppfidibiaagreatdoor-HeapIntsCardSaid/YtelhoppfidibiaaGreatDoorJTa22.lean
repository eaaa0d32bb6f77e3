/- A graph as a text: plainly; what moves has the same text. -/
import Derived.Test.YtelhoppfidibiaaGreatDoorJTa20
import Derived.Test.YtelhoppfidibiaaGreatDoorJTa21
import Derived.Test.YtelhoppfidibiaaGreatDoorJTa17
import Derived.Test.YtelhoppfidibiaaGreatDoorJTa07
import Derived.Test.YtelhoppfidibiaaGreatDoorJTa06
import Derived.Deep.Cut
import Derived.Test.YtelhoppfidibiaaGreatDoorJTa18
import Derived.StillTailTactics
import Derived.Test.YtelhoppfidibiaaGreatDoorJTa16
set_option linter.unusedSimpArgs false
set_option linter.unusedVariables false
namespace Go.Proofs.YtelhoppfidibiaaGreatDoor
open Go.RowKit
def rootS (l:List Ob) (out:ByteArray) (u:Int):ByteArray:=((out++⟨#[114,111,111,116,32]⟩)++toldS u l)++⟨#[10]⟩
def rootsS (l:List Ob) (us:List Int) (out:ByteArray):ByteArray:=us.foldl (rootS l) out
def fieldS (l:List Ob) (kind:Int) (out:ByteArray) (u:Int):ByteArray:=if kind<8 then (out++⟨#[32,48,120]⟩)++hexS u else (out++⟨#[32]⟩)++toldS u l
def fieldsS (l:List Ob) (kind:Int) (us:List Int) (out:ByteArray):ByteArray:=us.foldl (fieldS l kind) out
def headS (i:Nat) (kind:Int) (out:ByteArray):ByteArray:=((out++decS (i:Int))++⟨#[32]⟩)++decS kind
def objsS (W:List Int) (l:List Ob):Nat→List Ob→ByteArray→ByteArray
 | _,[],out=>out
 | i,o::r,out=>objsS W l (i+1) r (fieldsS l (hKind o.w) (fldsW W o) (headS i (hKind o.w) out)++⟨#[10]⟩)
def graphS (M:Mem):ByteArray:=objsS M.W (reachP M) 0 (reachP M) (rootsS (reachP M) M.roots ⟨#[]⟩)
section
variable {V W:List Int} {Dom:Nat→Prop} {f:Nat→Nat}
theorem objAt_map (hm:Morph V W Dom f):∀ (l:List Ob),InD V Dom l→∀ a:Nat,Dom a→objAt (l.map fun o=>obW W (f o.a)) (f a:Int)=objAt l (a:Int)
 | l,h,a,ha=>by
  unfold objAt
  suffices key:List.findIdx? (fun o:Ob=>(o.a:Int)==(f a:Int)) (l.map fun o=>obW W (f o.a))=List.findIdx? (fun o:Ob=>(o.a:Int)==(a:Int)) l by rw[key]
  induction l with
  | nil=>rfl
  | cons o l ih =>
   have ih':=ih fun x hx=>h x (by simp[hx])
   rw[List.map_cons,List.findIdx?_cons,List.findIdx?_cons]
   have e:(((obW W (f o.a)).a:Int)==(f a:Int))=((o.a:Int)==(a:Int)):=by
    rw[Bool.eq_iff_iff]
    simp only[beq_iff_eq]
    show (f o.a:Int)=(f a:Int)↔_
    constructor
    ·intro q
     have:=hm.inj o.a a (h o (by simp)).1 ha (by omega)
     omega
    ·intro q
     rw[show o.a=a by omega]
   rw[e,ih']
theorem told_map (hm:Morph V W Dom f) {l:List Ob} (h:InD V Dom l) {u v:Int} (hc:Cor f Dom u v):toldS v (l.map fun o=>obW W (f o.a))=toldS u l:=by
 rcases hc with⟨h1,h2⟩|⟨a,h1,h2,h3,h4,h5,h6,h7⟩
 ·subst h2
  unfold toldS
  have e:∀ l:List Ob,objAt l (ptsW v)=-1:=fun l=>by
   unfold objAt
   rw[List.findIdx?_eq_none_iff.2 (fun x hx=>by
    simp only[beq_eq_false_iff_ne,ne_eq];omega)]
   rfl
  rw[e,e]
 ·unfold kindW at h4 h6
  have key:∀ (u:Int) (l:List Ob),u%4=0→u≠0→toldS u l=(if objAt l (ptsW u)<0 then ⟨#[64]⟩ else ⟨#[64]⟩++decS (objAt l (ptsW u))):=fun u l g1 g2=>by
   unfold toldS
   rw[if_neg (show ¬u%4=1 by omega),if_neg (show ¬u%4=2 by omega),if_neg g2]
  rw[key v _ h6 h7,key u _ h4 h5,h1,h3,objAt_map hm l h a h2]
theorem rootsS_map (hm:Morph V W Dom f) {l:List Ob} (h:InD V Dom l):∀ (us vs:List Int) (out:ByteArray),us.length=vs.length→(∀ i,i<us.length→Cor f Dom (us.getD i 0) (vs.getD i 0))→rootsS (l.map fun o=>obW W (f o.a)) vs out=rootsS l us out
 | [],[],out,_,_=>rfl
 | u::us,v::vs,out,hl,hc=>by
  have h0:Cor f Dom u v:=hc 0 (by simp)
  have ih:=rootsS_map hm h us vs (rootS l out u) (by simpa using hl) fun i hi=>by simpa using hc (i+1) (by simpa using hi)
  unfold rootsS at ih ⊢
  rw[List.foldl_cons,List.foldl_cons,←ih]
  unfold rootS
  rw[told_map hm h h0]
theorem fieldsS_map (hm:Morph V W Dom f) {l:List Ob} (h:InD V Dom l) (kind:Int) (hk:¬kind<8):∀ (us vs:List Int) (out:ByteArray),us.length=vs.length→(∀ i,i<us.length→Cor f Dom (us.getD i 0) (vs.getD i 0))→fieldsS (l.map fun o=>obW W (f o.a)) kind vs out=fieldsS l kind us out
 | [],[],out,_,_=>rfl
 | u::us,v::vs,out,hl,hc=>by
  have h0:Cor f Dom u v:=hc 0 (by simp)
  have ih:=fieldsS_map hm h kind hk us vs (fieldS l kind out u) (by simpa using hl) fun i hi=>by simpa using hc (i+1) (by simpa using hi)
  unfold fieldsS at ih ⊢
  rw[List.foldl_cons,List.foldl_cons,←ih]
  unfold fieldS
  rw[if_neg hk,if_neg hk,told_map hm h h0]
end
def pointedB (u:Int):Bool:=decide (u%4=0)&&decide (u≠0)
def ledB (M:Mem) (u:Int):Bool:=decide (0≤ptsW u)&&inSt (ats (reachP M)) (ptsW u)
structure Kept (all:Bool) (M N:Mem) (go:Int→Int × Bool) (Dom:Nat→Prop) (f:Nat→Nat):Prop where
 morph:Morph M.W N.W Dom f
 lenW:N.W.length=M.W.length
 lenR:M.roots.length=N.roots.length
 roots:∀ i,i<M.roots.length→Cor f Dom (M.roots.getD i 0) (N.roots.getD i 0)
 weak:N.weak=M.weak.map fun a=>if (go a).2 then (go a).1 else 2
 ids:N.ids=M.ids.filterMap fun x=>if (go x.1).2 then some ((go x.1).1,x.2) else none
 yes:∀ u,fldB (startsM M) u=true→(go u).2=true→Cor f Dom u (go u).1
 no:∀ u,fldB (startsM M) u=true→(go u).2=false→pointedB u=true∧ledB M u=false
 all_:all=true→∀ u,fldB (startsM M) u=true→(go u).2=true→pointedB u=true→ledB M u=true
 goodM:goodB M=true
 goodN:goodB N=true
def wkPs (us vs:List Int):Nat→List (Int × Int)
 | 0=>[]
 | k+1=>if pointedB (us.getD k 0)=true∧vs.getD k 0≠2 then wkPs us vs k++[(us.getD k 0,vs.getD k 0)] else wkPs us vs k
def findI (ids:List (Int × Int)) (s:Int):Nat→Int
 | 0=>-1
 | k+1=>if (ids.getD k (0,0)).2=s then (k:Int) else findI ids s k
def idPs (is js:List (Int × Int)):Nat→List (Int × Int)
 | 0=>[]
 | k+1=>if 0≤findI js (is.getD k (0,0)).2 js.length then idPs is js k++[((is.getD k (0,0)).1,(js.getD (findI js (is.getD k (0,0)).2 js.length).toNat (0,0)).1)] else idPs is js k
def plusM (M:Mem) (l:List Int):Mem:={M with roots:=M.roots++l}
structure WeakOK (all:Bool) (M N:Mem):Prop where
 len:N.weak.length=M.weak.length
 each:∀ i,i<M.weak.length→(pointedB (M.weak.getD i 0)=false∧N.weak.getD i 0=M.weak.getD i 0)∨(pointedB (M.weak.getD i 0)=true∧N.weak.getD i 0=2∧ledB M (M.weak.getD i 0)=false)∨(pointedB (M.weak.getD i 0)=true∧N.weak.getD i 0≠2∧(all=true→ledB M (M.weak.getD i 0)=true))
 goodA:goodB (plusM M ((wkPs M.weak N.weak M.weak.length).map (·.1)))=true
 goodB_:goodB (plusM N ((wkPs M.weak N.weak M.weak.length).map (·.2)))=true
 graph:graphS (plusM N ((wkPs M.weak N.weak M.weak.length).map (·.2)))=graphS (plusM M ((wkPs M.weak N.weak M.weak.length).map (·.1)))
structure IdsOK (M N:Mem):Prop where
 len:N.ids.length≤M.ids.length
 each:∀ i,i<M.ids.length→ledB M (M.ids.getD i (0,0)).1=true→0≤findI N.ids (M.ids.getD i (0,0)).2 N.ids.length
 goodA:goodB (plusM M ((idPs M.ids N.ids M.ids.length).map (·.1)))=true
 goodB_:goodB (plusM N ((idPs M.ids N.ids M.ids.length).map (·.2)))=true
 graph:graphS (plusM N ((idPs M.ids N.ids M.ids.length).map (·.2)))=graphS (plusM M ((idPs M.ids N.ids M.ids.length).map (·.1)))
section
variable {all:Bool} {M N:Mem} {go:Int→Int × Bool} {Dom:Nat→Prop} {f:Nat→Nat}
theorem fieldsB_at {st l:List Int} (h:fieldsB st l=true) {i:Nat} (hi:i<l.length):fldB st (l.getD i 0)=true:=by
 unfold fieldsB at h
 rw[List.all_eq_true] at h
 exact getD_in (P:=fun u=>fldB st u=true) h hi
theorem pointed_pts {M:Mem} (hg:goodB M=true) {u:Int} (hf:fldB (startsM M) u=true) (hp:pointedB u=true):0≤ptsW u:=by
 unfold pointedB at hp
 simp only[Bool.and_eq_true,decide_eq_true_eq] at hp
 have hk:kindW u=0:=hp.1
 unfold fldB at hf
 rw[if_pos hk] at hf
 simp only[Bool.or_eq_true,beq_iff_eq] at hf
 rcases hf with q|q
 ·exact absurd q hp.2
 ·obtain⟨x,hx,e⟩:=List.mem_map.1 (List.contains_iff_mem.1 q)
  have hs:=(good_parts hg).1
  have h1:=(mem_in hs hx).1
  have h2:=len_small hs
  unfold ptsW
  rw[if_pos ⟨hk,hp.2,by unfold placeW at e;omega⟩]
  unfold placeW at e ⊢
  omega
theorem findI_in (ids:List (Int × Int)) (s:Int):∀ k:Nat,(findI ids s k=-1∧∀ j,j<k→(ids.getD j (0,0)).2≠s)∨(0≤findI ids s k∧findI ids s k<(k:Int)∧(ids.getD (findI ids s k).toNat (0,0)).2=s)
 | 0=>Or.inl ⟨rfl,fun j hj=>by omega⟩
 | k+1=>by
  unfold findI
  split
  ·rename_i hc
   right
   refine⟨by omega,by omega,?_⟩
   rw[Int.toNat_natCast];exact hc
  ·rename_i hc
   rcases findI_in ids s k with⟨q1,q2⟩|⟨q1,q2,q3⟩
   ·refine Or.inl ⟨q1,fun j hj=>?_⟩
    by_cases e:j=k
    ·subst e;exact hc
    ·exact q2 j (by omega)
   ·exact Or.inr ⟨q1,by omega,q3⟩
end
theorem objs_len {M:Mem} (hs:Shp M):(objsAll M).length≤M.W.length:=by
 obtain⟨hb,b0,b1⟩:=hs.base
 have s1:=hs.h1;have s2:=hs.t2;have s3:=hs.p2;have s4:=hs.w;have s5:=hs.t1;have s6:=hs.p1
 unfold objsAll
 rw[List.length_append]
 have l1:=part_len M.W (M.base+M.top.toNat-M.base) M.base (M.base+M.top.toNat)
 have l2:=part_len M.W ((2*M.half).toNat+M.oldTop.toNat-(2*M.half).toNat) (2*M.half).toNat ((2*M.half).toNat+M.oldTop.toNat)
 have e1:(partN M).1.length≤M.base+M.top.toNat-M.base:=l1
 have e2:(partO M).1.length≤(2*M.half).toNat+M.oldTop.toNat-(2*M.half).toNat:=l2
 omega
theorem comesP_snoc (W:List Int) (out:List Ob) (us:List Int) (k:Nat) (hk:k<us.length):comesP W out (us.take (k+1))=comeP W (comesP W out (us.take k)) (us.getD k 0):=by
 unfold comesP
 rw[List.take_add_one,List.getElem?_eq_getElem hk,List.foldl_append,List.getD_eq_getElem?_getD,List.getElem?_eq_getElem hk]
 rfl
theorem reachG_end (W:List Int) (f k:Nat) (out:List Ob) (h:out.length≤k):reachG W f k out=out:=by
 cases f with
 | zero=>rfl
 | succ f=>unfold reachG;rw[List.getElem?_eq_none h]
def InO (out:List Ob) (u:Int):Prop:=0≤ptsW u→inSt (ats out) (ptsW u)=true
theorem inO_app {out t:List Ob} {u:Int} (h:InO out u):InO (out++t) u:=fun q=>by
 have:=h q
 unfold inSt ats at this ⊢
 rw[List.contains_iff_mem] at this ⊢
 rw[List.map_append]
 exact List.mem_append_left _ this
theorem inSt_obs {out:List Ob} {p:Int}:inSt (ats out) p=true↔∃ o∈out,(o.a:Int)=p:=by
 unfold inSt ats
 rw[List.contains_iff_mem,List.mem_map]
theorem comeP_in (W:List Int) (out:List Ob) (u:Int):InO (comeP W out u) u:=fun q=>by
 unfold comeP
 split
 ·refine inSt_obs.2 ⟨obW W (ptsW u).toNat,by simp,?_⟩
  show (((ptsW u).toNat:Nat):Int)=_
  omega
 ·rename_i h
  cases e:inSt (ats out) (ptsW u) with
  | true=>rfl
  | false=>exact absurd ⟨q,e⟩ h
theorem comesP_in (W:List Int):∀ (us:List Int) (out:List Ob),∀ u∈us,InO (comesP W out us) u
 | [],out,u,h=>by simp at h
 | v::us,out,u,h=>by
  have e:comesP W out (v::us)=comesP W (comeP W out v) us:=rfl
  rw[e]
  rcases List.mem_cons.1 h with rfl|h
  ·obtain⟨t,ht⟩:=comesP_app W us (comeP W out u)
   rw[ht]
   exact inO_app (comeP_in W out u)
  ·exact comesP_in W us _ u h
def Shut (W:List Int) (out:List Ob) (o:Ob):Prop:=rawB (hKind o.w)=true∨∀ u∈fldsW W o,InO out u
theorem shut_app {W:List Int} {out t:List Ob} {o:Ob} (h:Shut W out o):Shut W (out++t) o:=by
 rcases h with h|h
 ·exact Or.inl h
 ·exact Or.inr fun u hu=>inO_app (h u hu)
theorem stepP_shut (W:List Int) (out:List Ob) (o:Ob):Shut W (stepP W out o) o:=by
 unfold stepP
 split
 ·rename_i h;exact Or.inl h
 ·exact Or.inr fun u hu=>comesP_in W _ _ u hu
theorem reachG_app (W:List Int):∀ (f k:Nat) (out:List Ob),∃ t,reachG W f k out=out++t
 | 0,_,out=>⟨[],by simp[reachG]⟩
 | f+1,k,out=>by
  unfold reachG
  cases e:out[k]? with
  | none=>exact⟨[],by simp⟩
  | some o =>
   obtain⟨t,ht⟩:=stepP_app W out o
   obtain⟨s,hs⟩:=reachG_app W f (k+1) (stepP W out o)
   exact⟨t++s,by show reachG W f (k+1) (stepP W out o)=_;rw[hs,ht,List.append_assoc]⟩
theorem reachG_shut (W:List Int):∀ (f k:Nat) (out:List Ob),(∀ j,j<k→∀ o,out[j]?=some o→Shut W out o)→(reachG W f k out).length≤f+k→∀ o∈reachG W f k out,Shut W (reachG W f k out) o
 | 0,k,out,hc,hl,o,ho=>by
  have hl':out.length≤0+k:=hl
  have ho':o∈out:=ho
  obtain⟨j,hj,e⟩:=List.getElem_of_mem ho'
  exact hc j (by omega) o (by rw[List.getElem?_eq_getElem hj,e])
 | f+1,k,out,hc,hl,o,ho=>by
  unfold reachG at hl ho ⊢
  cases e:out[k]? with
  | none =>
   rw[e] at ho
   simp only at ho ⊢
   obtain⟨j,hj,e2⟩:=List.getElem_of_mem ho
   have:out.length≤k:=by
    rcases Nat.lt_or_ge k out.length with q|q
    ·rw[List.getElem?_eq_getElem q] at e;cases e
    ·exact q
   exact hc j (by omega) o (by rw[List.getElem?_eq_getElem hj,e2])
  | some x =>
   rw[e] at ho hl
   simp only at ho hl ⊢
   refine reachG_shut W f (k+1) _ (fun j hj y hy=>?_) (by omega) o ho
   by_cases q:j=k
   ·subst q
    obtain⟨t,ht⟩:=stepP_app W out x
    have:y=x:=by
     have hlt:=(List.getElem?_eq_some_iff.1 e).1
     rw[ht,List.getElem?_append_left hlt,e] at hy
     injection hy with hy;exact hy.symm
    subst this
    exact stepP_shut W out y
   ·obtain⟨t,ht⟩:=stepP_app W out x
    have hk:=(List.getElem?_eq_some_iff.1 e).1
    rw[ht] at hy ⊢
    rw[List.getElem?_append_left (by omega)] at hy
    exact shut_app (hc j (by omega) y hy)
section
variable {M:Mem}
theorem words_len {M:Mem} (hg:goodB M=true) {l:List Ob} (h:Gath M l):l.length≤M.W.length:=by
 have h1:=h.len
 have h2:=objs_len (good_parts hg).1
 have hs:=(good_parts hg).1
 have hw:=hs.w
 have a1:=hs.h1;have a2:=hs.o1;have a3:=hs.t2;have a4:=hs.p2
 omega
theorem reachP_shut (hg:goodB M=true):∀ o∈reachP M,Shut M.W (reachP M) o:=by
 refine reachG_shut M.W _ 0 _ (fun j hj=>by omega) ?_
 have:=words_len hg (reachP_gath hg)
 exact this
theorem reachP_roots (M:Mem):∀ u∈M.roots,InO (reachP M) u:=fun u hu=>by
 obtain⟨t,ht⟩:=reachG_app M.W M.W.length 0 (comesP M.W [] M.roots)
 unfold reachP
 rw[ht]
 exact inO_app (comesP_in M.W _ _ u hu)
end
def ltM (hb x y:Nat):Bool:=if decide (hb≤x)=decide (hb≤y) then decide (x<y) else decide (hb≤x)
def leM (hb x y:Nat):Bool:=!ltM hb y x
theorem leM_iff (hb x y:Nat):leM hb x y=true↔(hb≤x∧y<hb)∨((hb≤x↔hb≤y)∧x≤y):=by
 unfold leM ltM
 by_cases h1:hb≤x<;>by_cases h2:hb≤y<;>simp[h1,h2]<;>omega
def ordP (M:Mem):List Nat:=((reachP M).map (·.a)).mergeSort (leM (hbM M))
theorem ordP_mem (M:Mem) (a:Nat):a∈ordP M↔a∈(reachP M).map (·.a):=(List.mergeSort_perm _ _).mem_iff
theorem ordP_nodup {M:Mem} (hg:goodB M=true):(ordP M).Nodup:=(List.mergeSort_perm _ _).nodup_iff.2 (reachP_gath hg).nodup
theorem ordP_len (M:Mem):(ordP M).length=(reachP M).length:=by
 show (List.mergeSort _ _).length=_
 rw[(List.mergeSort_perm _ _).length_eq,List.length_map]
def Ahead (hb x y:Nat):Prop:=(hb≤x∧y<hb)∨((hb≤x↔hb≤y)∧x<y)
theorem ordP_pair {M:Mem} (hg:goodB M=true):(ordP M).Pairwise (Ahead (hbM M)):=by
 have h1:(ordP M).Pairwise fun a b=>leM (hbM M) a b=true:=List.pairwise_mergeSort (fun a b c=>by simp only[leM_iff];omega) (fun a b=>by
  rw[Bool.or_eq_true,leM_iff,leM_iff];omega) _
 have h2:=ordP_nodup hg
 unfold List.Nodup at h2
 refine (h1.and h2).imp fun hab=>?_
 obtain⟨q1,q2⟩:=hab
 rw[leM_iff] at q1
 unfold Ahead
 omega
def topsW (W:List Int):Nat→List Nat→List (Nat × Nat)
 | _,[]=>[]
 | t,a::l=>(a,t)::topsW W (t+1+szW W a) l
def endW (W:List Int):Nat→List Nat→Nat
 | t,[]=>t
 | t,a::l=>endW W (t+1+szW W a) l
theorem topsW_fst (W:List Int):∀ (l:List Nat) (t:Nat),(topsW W t l).map (·.1)=l
 | [],_=>rfl
 | a::l,t=>by rw[topsW,List.map_cons,topsW_fst W l]
theorem endW_sum (W:List Int):∀ (l:List Nat) (t:Nat),endW W t l=t+(l.map fun a=>1+szW W a).sum
 | [],t=>rfl
 | a::l,t=>by rw[endW,endW_sum W l,List.map_cons,List.sum_cons];omega
theorem topsW_app (W:List Int):∀ (l k:List Nat) (t:Nat),topsW W t (l++k)=topsW W t l++topsW W (endW W t l) k
 | [],k,t=>rfl
 | a::l,k,t=>by rw[List.cons_append,topsW,topsW_app W l k,topsW,endW,List.cons_append]
theorem topsW_ge (W:List Int):∀ (l:List Nat) (t:Nat),∀ p∈topsW W t l,t≤p.2∧p.2+1+szW W p.1≤endW W t l
 | [],_,p,h=>by simp[topsW] at h
 | a::l,t,p,h=>by
  rw[topsW] at h
  rw[endW]
  have he:=endW_sum W l (t+1+szW W a)
  rcases List.mem_cons.1 h with rfl|h
  ·refine⟨Nat.le_refl _,?_⟩
   show t+1+szW W a≤_
   omega
  ·obtain⟨q1,q2⟩:=topsW_ge W l _ p h
   exact⟨by omega,q2⟩
theorem topsW_pair (W:List Int):∀ (l:List Nat) (t:Nat),(topsW W t l).Pairwise fun p q=>p.2+1+szW W p.1≤q.2
 | [],_=>List.Pairwise.nil
 | a::l,t=>by
  rw[topsW]
  refine List.Pairwise.cons (fun q hq=>?_) (topsW_pair W l _)
  exact (topsW_ge W l _ q hq).1
theorem topsW_left (W:List Int):∀ (l:List Nat) (t hb:Nat),l.Pairwise (Ahead hb)→(∀ a∈l,hb≤a→t≤a)→(∀ a∈l,∀ b∈l,hb≤a→a<b→a+1+szW W a≤b)→∀ p∈topsW W t l,hb≤p.1→p.2≤p.1
 | [],_,_,_,_,_,p,h,_=>by simp[topsW] at h
 | a::l,t,hb,hp,ht,hd,p,h,hq=>by
  rw[topsW] at h
  rw[List.pairwise_cons] at hp
  rcases List.mem_cons.1 h with rfl|h
  ·exact ht a (by simp) hq
  ·refine topsW_left W l (t+1+szW W a) hb hp.2 (fun b hb1 hb2=>?_) (fun b hb1 c hc=>hd b (by simp[hb1]) c (by simp[hc])) p h hq
   have h1:=hp.1 b hb1
   unfold Ahead at h1
   have h2:hb≤a:=by omega
   have h3:=ht a (by simp) h2
   have h4:=hd a (by simp) b (by simp[hb1]) h2 (by omega)
   omega
def toM (M:Mem):List (Nat × Nat):=topsW M.W (hbM M) (ordP M)
def endM (M:Mem):Nat:=endW M.W (hbM M) (ordP M)
def lookN (l:List (Nat × Nat)) (a:Nat):Option Nat:=(l.find? fun p=>a==p.1).map (·.2)
theorem lookN_mem {l:List (Nat × Nat)} {a t:Nat} (h:lookN l a=some t):(a,t)∈l:=by
 unfold lookN at h
 cases hf:l.find? (fun p=>a==p.1) with
 | none=>rw[hf] at h;cases h
 | some q =>
  rw[hf] at h
  have h1:=List.find?_some hf
  have h2:=List.mem_of_find?_eq_some hf
  have e:q.2=t:=by simpa using h
  have e1:a=q.1:=by simpa using h1
  rw[e1,←e];exact h2
theorem lookN_some {l:List (Nat × Nat)} {a:Nat} (h:a∈l.map (·.1)):∃ t,lookN l a=some t:=by
 unfold lookN
 cases hf:l.find? (fun p=>a==p.1) with
 | none =>
  obtain⟨p,hp,e⟩:=List.mem_map.1 h
  have:=List.find?_eq_none.1 hf p hp
  rw[←e] at this;simp at this
 | some q=>exact⟨q.2,rfl⟩
theorem lookN_of {l:List (Nat × Nat)} (hn:(l.map (·.1)).Nodup) {a t:Nat} (h:(a,t)∈l):lookN l a=some t:=by
 obtain⟨s,hs⟩:=lookN_some (l:=l) (a:=a) (List.mem_map_of_mem (f:=(·.1)) h)
 have hm:=lookN_mem hs
 have:=nodup_map_inj hn hm h rfl
 injection this with _ e
 rw[hs,e]
def toOf (M:Mem) (a:Nat):Nat:=(lookN (toM M) a).getD 0
def DomM (M:Mem) (a:Nat):Prop:=a∈(reachP M).map (·.a)
theorem toOf_mem {M:Mem} {a:Nat} (h:DomM M a):(a,toOf M a)∈toM M:=by
 obtain⟨t,ht⟩:=lookN_some (l:=toM M) (a:=a) (by unfold toM;rw[topsW_fst];exact (ordP_mem M a).2 h)
 unfold toOf
 rw[ht]
 exact lookN_mem ht
theorem toM_dom {M:Mem} {p:Nat × Nat} (h:p∈toM M):DomM M p.1:=by
 have:p.1∈(toM M).map (·.1):=List.mem_map_of_mem (f:=(·.1)) h
 unfold toM at this
 rw[topsW_fst] at this
 exact (ordP_mem M _).1 this
theorem toM_of {M:Mem} (hg:goodB M=true) {p:Nat × Nat} (h:p∈toM M):toOf M p.1=p.2:=by
 unfold toOf
 rw[lookN_of (by unfold toM;rw[topsW_fst];exact ordP_nodup hg) (show (p.1,p.2)∈toM M from h)];rfl
def fwM (M:Mem) (u:Int):Int × Bool :=
 if kindW u≠0∨u=0 then (u,true) else if inSt (ats (reachP M)) (placeW u)=true then (addrW (toOf M (placeW u).toNat),true) else (2,false)
end Go.Proofs.YtelhoppfidibiaaGreatDoor
