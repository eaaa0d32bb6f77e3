/- What a collection does to words and places: which words are followed; the places behind it are objects. -/
import Derived.Test.YtelhoppfidibiaaGreatDoorJTa26
import Derived.Test.YtelhoppfidibiaaGreatDoorJTa27
import Derived.Test.YtelhoppfidibiaaGreatDoorJTa01
import Derived.LaidEql
import Derived.Stop.Asserts
import Derived.RowKitTokens
import Derived.Shelf.SlSortCmp.NoneTotal
import Derived.Lib.SortBridge
import Derived.Test.YtelhoppfidibiaaGreatDoorJTa23
import Derived.BigQuiet
set_option linter.unusedSimpArgs false
set_option linter.unusedVariables false
set_option maxHeartbeats 1000000
set_option maxRecDepth 100000
namespace Go.Proofs.YtelhoppfidibiaaGreatDoor
open Go.RowKit
structure Moved (M N:Mem) (go:Int→Int × Bool) (D:Nat→Prop) (f:Nat→Nat):Prop where
 kept:∃ all,Kept all M N go D f
 back:∀ u a,fldB (startsM M) u=true→ptsW u=((a:Nat):Int)→D a→(go u).2=true
 obj:∀ a,D a→f a∈(objsAll N).map (·.a)
theorem pts_at {u:Int} {a:Nat} (h:ptsW u=(a:Int)):kindW u=0∧u≠0∧placeW u=(a:Int):=by
 unfold ptsW at h
 split at h
 ·rename_i hc;exact⟨hc.1,hc.2.1,h⟩
 ·omega
theorem minor_moved {M:Mem} {ten:Int} (hr:Ready M ten):Moved M (collectC M ten) (lastC (col4 M ten)) (DomC M (col4 M ten)) (goC M (col4 M ten)):=by
 have hf:=collect_fin hr
 obtain⟨p1,p2⟩:=hf.parts hr
 obtain⟨Dn,hv⟩:=hf.inv
 refine⟨⟨_,minor_kept hr⟩,fun u a hu hp ⟨b,hi⟩=>?_,fun a hd=>?_⟩
 ·obtain⟨k1,k2,k3⟩:=pts_at hp
  unfold lastC
  rw[hv.like.stays]
  cases hs:stays M u with
  | true=>rfl
  | false =>
   simp only[Bool.false_eq_true,if_false]
   rcases hi with⟨rfl,hm⟩|hm
   ·exfalso
    obtain⟨x,hx,ex⟩:=List.mem_map.1 hm
    have r1:=hr.inO hx
    obtain⟨hh,e1,e2,e3,e4,e5,e6,e7,e8,e9,e10,e11,e12⟩:=hr.shp.nums
    unfold stays youngB oldB at hs
    rw[k3,k1] at hs
    simp[k2] at hs
    omega
   ·rw[k3,mlook_of hv.nodupI hm]
 ·have hi:=hf.img hr hd
  show _∈(objsAll (finM M (col4 M ten))).map (·.a)
  unfold objsAll
  rw[p1,p2,List.map_append]
  have hid:∀ l:List Nat,(l.map (obW (col4 M ten).M.W)).map (·.a)=l:=fun l=>by
   rw[List.map_map];exact (List.map_congr_left fun x _=>rfl).trans (List.map_id l)
  simp only[hid]
  rcases hi with⟨e,hm⟩|hm
  ·rw[←e];exact List.mem_append.2 (Or.inr (List.mem_append.2 (Or.inl hm)))
  ·by_cases hsd:2*M.half≤(((goC M (col4 M ten) a:Nat)):Int)
   ·exact List.mem_append.2 (Or.inr (List.mem_append.2 (Or.inr (List.mem_map.2 ⟨_,List.mem_filter.2 ⟨hm,by simpa using hsd⟩,by simp⟩))))
   ·exact List.mem_append.2 (Or.inl (List.mem_map.2 ⟨_,List.mem_filter.2 ⟨hm,by simpa using hsd⟩,by simp⟩))
theorem major_moved {M:Mem} (h:Full M):Moved M (majM M) (fwM M) (DomM M) (toOf M):=by
 obtain⟨p1,p2⟩:=h.parts
 refine⟨⟨_,h.kept⟩,fun u a hu hp hd=>?_,fun a hd=>?_⟩
 ·obtain⟨k1,k2,k3⟩:=pts_at hp
  unfold fwM
  rw[if_neg (fun q=>by rcases q with q|q;exact q k1;exact k2 q),if_pos]
  rw[k3]
  obtain⟨o,ho,e⟩:=List.mem_map.1 hd
  exact List.contains_iff_mem.2 (List.mem_map.2 ⟨o,ho,by show (o.a:Int)=_;rw[←e]⟩)
 ·unfold objsAll
  rw[p1,p2]
  have hid:∀ l:List Nat,(l.map (obW (majW M))).map (·.a)=l:=fun l=>by
   rw[List.map_map];exact (List.map_congr_left fun x _=>rfl).trans (List.map_id l)
  simp only[List.nil_append,hid]
  exact List.mem_map.2 ⟨_,toOf_mem hd,rfl⟩
theorem Cor.comp {f g:Nat→Nat} {D E:Nat→Prop} {u v w:Int} (h:Cor f D u v) (k:Cor g E v w):Cor (fun a=>g (f a)) (fun a=>D a∧E (f a)) u w:=by
 rcases h with⟨h1,h2⟩|⟨a,h1,h2,h3,h4,h5,h6,h7⟩
 ·subst h2
  rcases k with⟨k1,k2⟩|⟨b,k1,_⟩
  ·exact Or.inl ⟨h1,k2⟩
  ·omega
 ·rcases k with⟨k1,k2⟩|⟨b,k1,k2,k3,k4,k5,k6,k7⟩
  ·omega
  ·obtain rfl:f a=b:=by omega
   exact Or.inr ⟨a,h1,⟨h2,k2⟩,k3,h4,h5,k6,k7⟩
theorem Cor.mono {f g:Nat→Nat} {D E:Nat→Prop} {u v:Int} (h:Cor f D u v) (k:∀ a,D a→E a∧g a=f a):Cor g E u v:=by
 rcases h with h|⟨a,h1,h2,h3,h4⟩
 ·exact Or.inl h
 ·exact Or.inr ⟨a,h1,(k a h2).1,by rw[(k a h2).2];exact h3,h4⟩
theorem Morph.comp {U V W:List Int} {f g:Nat→Nat} {D E:Nat→Prop} (h:Morph U V D f) (k:Morph V W E g):Morph U W (fun a=>D a∧E (f a)) (fun a=>g (f a)):=by
 refine⟨fun a b ha hb e=>h.inj a b ha.1 hb.1 (k.inj _ _ ha.2 hb.2 e),fun a ha=>(k.kind _ ha.2).trans (h.kind a ha.1),fun a ha=>(k.size _ ha.2).trans (h.size a ha.1),fun a ha hr i hi=>?_,fun a ha hr i hi=>?_⟩
 ·have hs:szW V (f a)=szW U a:=by unfold szW;rw[h.size a ha.1]
  exact (h.fld a ha.1 hr i hi).comp (k.fld (f a) ha.2 (by rw[h.kind a ha.1];exact hr) i (by rw[hs];exact hi))
 ·have hs:szW V (f a)=szW U a:=by unfold szW;rw[h.size a ha.1]
  rw[k.raw (f a) ha.2 (by rw[h.kind a ha.1];exact hr) i (by rw[hs];exact hi)]
  exact h.raw a ha.1 hr i hi
theorem reach_fuel (W:List Int):∀ (n n2 k:Nat) (out:List Ob),(reachG W n k out).length≤k+n→(reachG W n k out).length≤k+n2→reachG W n2 k out=reachG W n k out
 | 0,n2,k,out,h1,h2=>by
  have hl:out.length≤k:=by simpa [reachG] using h1
  have e:out[k]?=none:=List.getElem?_eq_none hl
  cases n2 with
  | zero=>rfl
  | succ n2=>show reachG W (n2+1) k out=out;unfold reachG;rw[e]
 | n+1,n2,k,out,h1,h2=>by
  cases e:out[k]? with
  | none =>
   have q1:reachG W (n+1) k out=out:=by unfold reachG;rw[e]
   rw[q1]
   cases n2 with
   | zero=>rfl
   | succ n2=>unfold reachG;rw[e]
  | some o =>
   have q1:reachG W (n+1) k out=reachG W n (k+1) (stepP W out o):=by conv=>lhs;unfold reachG;rw[e]
   rw[q1] at h1 h2 ⊢
   cases n2 with
   | zero =>
    exfalso
    obtain⟨hk,_⟩:=List.getElem?_eq_some_iff.1 e
    obtain⟨t,ht⟩:=stepP_app W out o
    obtain⟨s,hs⟩:=reachG_app W n (k+1) (stepP W out o)
    rw[hs,ht,List.length_append,List.length_append] at h2
    omega
   | succ n2 =>
    have q2:reachG W (n2+1) k out=reachG W n2 (k+1) (stepP W out o):=by conv=>lhs;unfold reachG;rw[e]
    rw[q2]
    exact reach_fuel W n n2 (k+1) _ (by omega) (by omega)
structure Ideal where
 V:List Int
 P:List Nat
 roots:List Int
 weak:List Int
 ids:List (Int × Int)
def reachI (I:Ideal):List Ob:=reachG I.V I.V.length 0 (comesP I.V [] I.roots)
def liveI (I:Ideal):Nat:=((reachI I).map fun o=>1+o.n).sum
structure Rep (I:Ideal) (M:Mem) (D:Nat→Prop) (f:Nat→Nat):Prop where
 morph:Morph I.V M.W D f
 dom:∀ a,D a→a+1+szW I.V a≤I.V.length
 apart:∀ a b,D a→D b→a<b→a+1+szW I.V a≤b
 obj:∀ a,D a→f a∈(objsAll M).map (·.a)
 lenR:I.roots.length=M.roots.length
 roots:∀ i,i<I.roots.length→Cor f D (I.roots.getD i 0) (M.roots.getD i 0)
 lenK:I.weak.length=M.weak.length
 weak:∀ i,i<I.weak.length→Cor f D (I.weak.getD i 0) (M.weak.getD i 0)∨(M.weak.getD i 0=2∧∃ a:Nat,ptsW (I.weak.getD i 0)=(a:Int)∧¬D a)
 ids1:∀ u s,(u,s)∈I.ids→∀ a:Nat,ptsW u=(a:Int)→D a→∃ v,Cor f D u v∧(v,s)∈M.ids
 ids2:∀ v s,(v,s)∈M.ids→∃ u,(u,s)∈I.ids∧Cor f D u v
 wkV:∀ i,i<I.weak.length→ptsW (I.weak.getD i 0)<(I.V.length:Int)
 idV:∀ u s,(u,s)∈I.ids→ptsW u<(I.V.length:Int)
 nodes:∀ a,D a→a∈I.P
theorem fld_pts {M:Mem} (hg:goodB M=true) {u:Int} (hf:fldB (startsM M) u=true) (h1:kindW u=0) (h2:u≠0):∃ a:Nat,ptsW u=(a:Int)∧a∈(objsAll M).map (·.a):=by
 have hs:=(good_parts hg).1
 have hin:placeW u∈startsM M:=by
  unfold fldB at hf
  rw[if_pos h1] at hf
  simp only[Bool.or_eq_true,beq_iff_eq] at hf
  rcases hf with q|q
  ·exact absurd q h2
  ·exact List.contains_iff_mem.1 q
 obtain⟨x,hx,e⟩:=List.mem_map.1 hin
 have l1:=(mem_in hs hx).1
 have l2:=len_small hs
 refine⟨x.a,?_,List.mem_map.2 ⟨x,hx,rfl⟩⟩
 unfold ptsW
 rw[if_pos ⟨h1,h2,by unfold placeW at e;omega⟩]
 exact e.symm
theorem Moved.two {M N:Mem} {go:Int→Int × Bool} {E:Nat→Prop} {g:Nat→Nat} (hm:Moved M N go E g):go 2=(2,true):=by
 obtain⟨all,hk⟩:=hm.kept
 have hf:fldB (startsM M) 2=true:=by unfold fldB;simp[kindW]
 have h2:(go 2).2=true:=by
  cases hc:(go 2).2 with
  | true=>rfl
  | false =>
   have:=(hk.no 2 hf hc).1
   simp[pointedB] at this
 rcases hk.yes 2 hf h2 with⟨_,e⟩|⟨a,h3,_⟩
 ·exact Prod.ext e h2
 ·simp[ptsW,kindW] at h3
theorem ids_fld {M:Mem} (hg:goodB M=true) {v s:Int} (h:(v,s)∈M.ids):fldB (startsM M) v=true∧kindW v=0∧v≠0∧1≤s:=by
 have h1:=(((idsB_iff _ _ _).1 (good_parts hg).2.2.2.2.2).1 _ h).1
 obtain⟨a1,a2,a3,a4⟩:=h1
 refine⟨?_,a1,a2,a4⟩
 unfold fldB
 rw[if_pos a1,a3];simp
section
variable {I:Ideal} {M:Mem} {D:Nat→Prop} {f:Nat→Nat}
theorem Rep.reach (h:Rep I M D f) (hg:goodB M=true):reachP M=(reachI I).map (fun o=>obW M.W (f o.a))∧InD I.V D (reachI I)∧(reachI I).length≤I.V.length∧((reachI I).map (·.a)).Nodup:=by
 obtain⟨s1,s2⟩:=comes_sim h.morph I.roots M.roots [] (fun o ho=>by simp at ho) h.lenR h.roots
 have s1':comesP M.W [] M.roots=(comesP I.V [] I.roots).map (fun o=>obW M.W (f o.a)):=s1
 obtain⟨r1,r2⟩:=reachG_sim h.morph M.W.length 0 _ s2
 have e1:reachP M=(reachG I.V M.W.length 0 (comesP I.V [] I.roots)).map (fun o=>obW M.W (f o.a)):=by unfold reachP;rw[s1',r1]
 have hga:=reachP_gath hg
 have l1:(reachP M).length≤M.W.length:=Nat.le_trans hga.len (objs_len (good_parts hg).1)
 have l2:(reachG I.V M.W.length 0 (comesP I.V [] I.roots)).length=(reachP M).length:=by rw[e1,List.length_map]
 have hnd:((reachG I.V M.W.length 0 (comesP I.V [] I.roots)).map (·.a)).Nodup:=by
   have:=hga.nodup
   rw[e1,List.map_map] at this
   unfold List.Nodup at this ⊢
   rw[List.pairwise_map] at this ⊢
   exact this.imp fun {a b} hab e=>hab (by show f a.a=f b.a;rw[e])
 have l3:(reachP M).length≤I.V.length:=by
  rw[←l2]
  have hnd:((reachG I.V M.W.length 0 (comesP I.V [] I.roots)).map (·.a)).Nodup:=by
   have:=hga.nodup
   rw[e1,List.map_map] at this
   unfold List.Nodup at this ⊢
   rw[List.pairwise_map] at this ⊢
   exact this.imp fun {a b} hab e=>hab (by show f a.a=f b.a;rw[e])
  have:=len_sub _ (List.range I.V.length) hnd fun a ha=>by
   obtain⟨o,ho,rfl⟩:=List.mem_map.1 ha
   exact List.mem_range.2 (by have:=h.dom _ (r2 o ho).1;omega)
  simpa using this
 have e2:reachI I=reachG I.V M.W.length 0 (comesP I.V [] I.roots):=reach_fuel I.V _ _ 0 _ (by omega) (by omega)
 rw[e2]
 exact⟨e1,r2,by omega,hnd⟩
theorem Rep.live (h:Rep I M D f) (hg:goodB M=true):liveM M=liveI I:=by
 obtain⟨e,hi,-⟩:=h.reach hg
 unfold liveM liveI
 rw[e,List.map_map]
 congr 1
 refine List.map_congr_left fun o ho=>?_
 obtain⟨hd,eo⟩:=hi o ho
 show 1+(obW M.W (f o.a)).n=1+o.n
 unfold Ob.n
 rw[eo]
 show 1+(hSize (wat M.W (f o.a))).toNat=1+(hSize (wat I.V o.a)).toNat
 rw[h.morph.size _ hd]
theorem Rep.moved {N:Mem} {go:Int→Int × Bool} {E:Nat→Prop} {g:Nat→Nat} (h:Rep I M D f) (hm:Moved M N go E g):Rep I N (fun a=>D a∧E (f a)) (fun a=>g (f a)):=by
 obtain⟨all,hk⟩:=hm.kept
 obtain⟨hs,hob,hr,hw,hfo,hid⟩:=good_parts hk.goodM
 refine⟨h.morph.comp hk.morph,fun a ha=>h.dom a ha.1,fun a b ha hb=>h.apart a b ha.1 hb.1,fun a ha=>hm.obj _ ha.2,h.lenR.trans hk.lenR,fun i hi=>(h.roots i hi).comp (hk.roots i (by rw[←h.lenR];exact hi)),by rw[hk.weak,List.length_map];exact h.lenK,fun i hi=>?_,fun u s hu a ha hd=>?_,fun v s hv=>?_,h.wkV,h.idV,fun a ha=>h.nodes a ha.1⟩
 ·have hi2:i<M.weak.length:=by rw[←h.lenK];exact hi
  have e:N.weak.getD i 0=if (go (M.weak.getD i 0)).2 then (go (M.weak.getD i 0)).1 else 2:=by
   rw[hk.weak];simp[List.getD_eq_getElem?_getD,hi2]
  have hf:=fieldsB_at hw hi2
  rcases h.weak i hi with c|⟨c1,a,c2,c3⟩
  ·by_cases hy:(go (M.weak.getD i 0)).2=true
   ·left
    rw[e,if_pos hy]
    exact c.comp (hk.yes _ hf hy)
   ·right
    rw[e,if_neg hy]
    rcases c with⟨c1,c2⟩|⟨a,c1,c2,c3,-⟩
    ·exfalso
     obtain⟨p1,-⟩:=hk.no _ hf (by simpa using hy)
     simp only[pointedB,Bool.and_eq_true,decide_eq_true_eq] at p1
     obtain⟨b,hb,-⟩:=fld_pts hk.goodM hf p1.1 p1.2
     rw[c2] at hb
     omega
    ·exact⟨rfl,a,c1,fun q=>hy (hm.back _ _ hf c3 q.2)⟩
  ·right
   rw[e,c1,hm.two]
   exact⟨rfl,a,c2,fun q=>c3 q.1⟩
 ·obtain⟨v,c1,c2⟩:=h.ids1 u s hu a ha hd.1
  obtain⟨hf,k1,k2,k3⟩:=ids_fld hk.goodM c2
  have hp:ptsW v=(f a:Int):=by
   rcases c1 with⟨q1,-⟩|⟨b,q1,q2,q3,-⟩
   ·omega
   ·obtain rfl:b=a:=by omega
    exact q3
  have hy:=hm.back v (f a) hf hp hd.2
  refine⟨(go v).1,c1.comp (hk.yes v hf hy),?_⟩
  rw[hk.ids]
  exact List.mem_filterMap.2 ⟨(v,s),c2,by simp[hy]⟩
 ·rw[hk.ids] at hv
  obtain⟨x,hx,e⟩:=List.mem_filterMap.1 hv
  obtain⟨x1,x2⟩:=x
  simp only at e
  split at e
  ·rename_i hy
   simp only[Option.some.injEq,Prod.mk.injEq] at e
   obtain⟨e1,rfl⟩:=e
   obtain⟨u,u1,u2⟩:=h.ids2 x1 x2 hx
   refine⟨u,u1,?_⟩
   rw[←e1]
   exact u2.comp (hk.yes x1 (ids_fld hk.goodM hx).1 hy)
  ·cases e
end
open Go.RowKit Go.Extern.Stop Go.Stop Go.Extern
theorem isTypeOf (v:Value) (w:World):(Extern.ReflectliteType.typeOf #[.iface 261 v]).run Tryz.prog w=.ok (.iface 206 (.agg #[.pointer (some ⟨11,261,none⟩)])) w:=by kernel_rfl
theorem isComparable (w:World):((Extern.ReflectliteType.method fun t=>do Rtype.noPackHeld "Comparable" t;(fun a=>Value.bool a.comparable) <$> typeInfo t) #[.agg #[.pointer (some ⟨11,261,none⟩)]]).run Tryz.prog w=.ok (.bool true) w:=by kernel_rfl
theorem isMethodComparable (v:Value) (w:World):(Go.method 391 206 v "Comparable").run Tryz.prog w=.ok (207,v) w:=by kernel_rfl
theorem isComp:(Tryz.prog.info? 261).map (·.comparable)=some true:=by kernel_rfl
theorem isSize:(Tryz.prog.info? 279).map (·.size)=some 1:=by kernel_rfl
theorem noIsE (v:Value) (xT:TypeId) (w:World):(Instr.typeAssert (.iface 261 v) xT 208 true).run Tryz.prog w=.ok (.tuple #[.nilIface,.bool false]) w:=run_typeAssert_lacksB Tryz.underlying208 (by kernel_rfl) (by kernel_rfl) v xT w
theorem noUnwrapE (v:Value) (xT:TypeId) (w:World):(Instr.typeAssert (.iface 261 v) xT 211 true).run Tryz.prog w=.ok (.tuple #[.nilIface,.bool false]) w:=run_typeAssert_lacksB Tryz.underlying211 (by kernel_rfl) (by kernel_rfl) v xT w
theorem noUnwrapsE (v:Value) (xT:TypeId) (w:World):(Instr.typeAssert (.iface 261 v) xT 212 true).run Tryz.prog w=.ok (.tuple #[.nilIface,.bool false]) w:=run_typeAssert_lacksB Tryz.underlying212 (by kernel_rfl) (by kernel_rfl) v xT w
theorem is_same (a:Addr) (w:World) :
  Calls Tryz.prog 45 #[errV a,errV a] w fun e w'=>e=.returned (.bool true)∧w'=w:=by
 obtain⟨i,hi,hcmp⟩:=Option.map_eq_some_iff.1 isComp
 obtain⟨j,hj,hjs⟩:=Option.map_eq_some_iff.1 isSize
 have h8:=@run_callFunc_extern Tryz.prog 96 _ Extern.ReflectliteType.typeOf Tryz.func96 (by kernel_rfl) (by kernel_rfl) (by kernel_rfl) (by kernel_rfl)
 have h32:=@run_callFunc_extern Tryz.prog 207 _ (Extern.ReflectliteType.method fun t=>do Rtype.noPackHeld "Comparable" t;pure (.bool (←typeInfo t).comparable)) Tryz.func207 (by kernel_rfl) (by kernel_rfl) (by kernel_rfl) (by kernel_rfl)
 have tT:=isTypeOf
 have cT:=isComparable
 have mR:=isMethodComparable
 have heq:=run_eql_iface_ptr_same (P:=Tryz.prog) w a Tryz.underlying26 Tryz.underlying261 hi hcmp hj
 go_enter Tryz.func45,Tryz.ntmps45
 go_wp2
 refine wp_loop_rounds 1 ?_
 rw[rounds_succ]
 go_wp2
 go_ret
 exact⟨rfl,rfl⟩
theorem is_other (a b:Addr) (ca cb:Array Value) (ta tb:TypeId) (w:World) (hne:a≠b) (ha:w.heap[a.block]?=some (.cells ca ta (0,0))) (hb:w.heap[b.block]?=some (.cells cb tb (0,0))) :
  Calls Tryz.prog 45 #[errV a,errV b] w fun e w'=>e=.returned (.bool false)∧w'=w:=by
 obtain⟨i,hi,hcmp⟩:=Option.map_eq_some_iff.1 isComp
 obtain⟨j,hj,hjs⟩:=Option.map_eq_some_iff.1 isSize
 have h8:=@run_callFunc_extern Tryz.prog 96 _ Extern.ReflectliteType.typeOf Tryz.func96 (by kernel_rfl) (by kernel_rfl) (by kernel_rfl) (by kernel_rfl)
 have h32:=@run_callFunc_extern Tryz.prog 207 _ (Extern.ReflectliteType.method fun t=>do Rtype.noPackHeld "Comparable" t;pure (.bool (←typeInfo t).comparable)) Tryz.func207 (by kernel_rfl) (by kernel_rfl) (by kernel_rfl) (by kernel_rfl)
 have tT:=isTypeOf
 have cT:=isComparable
 have mR:=isMethodComparable
 have nE:=noIsE
 have uE:=noUnwrapE
 have vE:=noUnwrapsE
 have heq:=run_eql_iface_ptr_other (P:=Tryz.prog) w Tryz.underlying26 Tryz.underlying261 hi hcmp hj (by rw[hjs];decide) hne ha hb
 go_enter Tryz.func45,Tryz.ntmps45
 go_wp2
 refine wp_loop_rounds 1 ?_
 rw[rounds_succ]
 go_wp2
 go_ret
 exact⟨rfl,rfl⟩
open Go.Shelf Go.RowKit Go.Sort
def sortRen:Ren where
 f:=fun x=>match x with
  | 6=>99
  | 15=>146
  | 14=>145
  | 28=>169
  | 29=>170
  | 20=>161
  | 21=>162
  | 22=>163
  | 23=>164
  | 24=>165
  | 25=>166
  | 26=>167
  | 27=>168
  | 46=>177
  | 47=>178
  | 48=>179
  | 49=>180
  | 50=>181
  | 57=>184
  | n=>n
 t:=fun x=>match x with
  | 22=>22
  | 24=>3
  | 25=>147
  | 3=>3
  | 39=>143
  | 0=>0
  | 53=>192
  | 55=>78
  | 4=>4
  | 46=>238
  | 45=>237
  | 50=>163
  | 5=>5
  | 9=>9
  | 66=>252
  | 70=>255
  | 76=>257
  | 77=>45
  | n=>n
 g:=fun n=>n
theorem sortL:SlLaysF.n6 Tryz.prog sortRen where
 mixed:=by kernel_rfl
 f6:=Exists.intro "slices.SortFunc[[]int,int]" ⟨by decide,by kernel_rfl⟩
 f14:=Exists.intro "slices.pdqsortCmpFunc[int]" ⟨by decide,by kernel_rfl⟩
 f15:=by kernel_rfl
 f20:=Exists.intro "slices.insertionSortCmpFunc[int]" ⟨by decide,by kernel_rfl⟩
 f21:=Exists.intro "slices.heapSortCmpFunc[int]" ⟨by decide,by kernel_rfl⟩
 f22:=Exists.intro "slices.breakPatternsCmpFunc[int]" ⟨by decide,by kernel_rfl⟩
 f23:=Exists.intro "slices.choosePivotCmpFunc[int]" ⟨by decide,by kernel_rfl⟩
 f24:=Exists.intro "slices.reverseRangeCmpFunc[int]" ⟨by decide,by kernel_rfl⟩
 f25:=Exists.intro "slices.partialInsertionSortCmpFunc[int]" ⟨by decide,by kernel_rfl⟩
 f26:=Exists.intro "slices.partitionEqualCmpFunc[int]" ⟨by decide,by kernel_rfl⟩
 f27:=Exists.intro "slices.partitionCmpFunc[int]" ⟨by decide,by kernel_rfl⟩
 f28:=by kernel_rfl
 f29:=by kernel_rfl
 f46:=Exists.intro "slices.siftDownCmpFunc[int]" ⟨by decide,by kernel_rfl⟩
 f47:=by kernel_rfl
 f48:=by kernel_rfl
 f49:=Exists.intro "slices.medianAdjacentCmpFunc[int]" ⟨by decide,by kernel_rfl⟩
 f50:=Exists.intro "slices.medianCmpFunc[int]" ⟨by decide,by kernel_rfl⟩
 f57:=Exists.intro "slices.order2CmpFunc[int]" ⟨by decide,by kernel_rfl⟩
 t0:=by kernel_rfl
 a0:=fun w=>by kernel_rfl
 z0:=fun w=>by kernel_rfl
 v0:=fun w=>by kernel_rfl
 t3:=by kernel_rfl
 a3:=fun w=>by kernel_rfl
 z3:=fun w=>by kernel_rfl
 v3:=fun w=>by kernel_rfl
 t4:=by kernel_rfl
 a4:=fun w=>by kernel_rfl
 z4:=fun w=>by kernel_rfl
 v4:=fun w=>by kernel_rfl
 t5:=by kernel_rfl
 a5:=fun w=>by kernel_rfl
 z5:=fun w=>by kernel_rfl
 v5:=fun w=>by kernel_rfl
 t9:=by kernel_rfl
 a9:=fun w=>by kernel_rfl
 z9:=fun w=>by kernel_rfl
 v9:=fun w=>by kernel_rfl
 t22:=by kernel_rfl
 a22:=fun w=>by kernel_rfl
 z22:=fun w=>by kernel_rfl
 v22:=fun w=>by kernel_rfl
 a24:=fun w=>by kernel_rfl
 z24:=fun w=>by kernel_rfl
 t25:=by kernel_rfl
 a25:=fun w=>by kernel_rfl
 z25:=fun w=>by kernel_rfl
 v25:=fun w=>by kernel_rfl
 t39:=by kernel_rfl
 a39:=fun w=>by kernel_rfl
 z39:=fun w=>by kernel_rfl
 v39:=fun w=>by kernel_rfl
 t45:=by kernel_rfl
 a45:=fun w=>by kernel_rfl
 z45:=fun w=>by kernel_rfl
 v45:=fun w=>by kernel_rfl
 t46:=by kernel_rfl
 a46:=fun w=>by kernel_rfl
 z46:=fun w=>by kernel_rfl
 v46:=fun w=>by kernel_rfl
 t50:=by kernel_rfl
 a50:=fun w=>by kernel_rfl
 z50:=fun w=>by kernel_rfl
 v50:=fun w=>by kernel_rfl
 t53:=by kernel_rfl
 a53:=fun w=>by kernel_rfl
 z53:=fun w=>by kernel_rfl
 v53:=fun w=>by kernel_rfl
 t55:=by kernel_rfl
 a55:=fun w=>by kernel_rfl
 z55:=fun w=>by kernel_rfl
 v55:=fun w=>by kernel_rfl
 t66:=by kernel_rfl
 a66:=fun w=>by kernel_rfl
 z66:=fun w=>by kernel_rfl
 v66:=fun w=>by kernel_rfl
 t70:=by kernel_rfl
 a70:=fun w=>by kernel_rfl
 z70:=fun w=>by kernel_rfl
 v70:=fun w=>by kernel_rfl
 t76:=by kernel_rfl
 a76:=fun w=>by kernel_rfl
 z76:=fun w=>by kernel_rfl
 v76:=fun w=>by kernel_rfl
 t77:=by kernel_rfl
 a77:=fun w=>by kernel_rfl
 z77:=fun w=>by kernel_rfl
 v77:=fun w=>by kernel_rfl
open Go.Shelf Go.RowKit Go.Sort
abbrev A20:=Fin 1048576
def enc20 (x:A20):Value:=.int .i64 (x.val:Int)
def cfM (hb:Nat) (x y:A20):Int:=if decide (hb≤x.val)=decide (hb≤y.val) then (x.val:Int)-(y.val:Int) else if hb≤x.val then -1 else 1
theorem lt_cfM (hb:Nat) (x y:A20):ltOf (cfM hb) x y=ltM hb x.val y.val:=by
 unfold ltOf cfM ltM
 by_cases h1:hb≤x.val<;>by_cases h2:hb≤y.val<;>simp[h1,h2]<;>omega
theorem swoM (hb:Nat):SWO (ltOf (cfM hb)) where
 irrefl x:=by rw[lt_cfM];unfold ltM;simp
 trans x y z h1 h2:=by
  rw[lt_cfM] at *
  unfold ltM at *
  by_cases k1:hb≤x.val<;>by_cases k2:hb≤y.val<;>by_cases k3:hb≤z.val<;>simp[k1,k2,k3] at*<;> omega
 ntrans x y z h1 h2:=by
  rw[lt_cfM] at *
  unfold ltM at *
  by_cases k1:hb≤x.val<;>by_cases k2:hb≤y.val<;>by_cases k3:hb≤z.val<;>simp[k1,k2,k3] at*<;> omega
theorem totM (hb:Nat) (x y:A20) (h1:ltOf (cfM hb) x y=false) (h2:ltOf (cfM hb) y x=false):x=y:=by
 rw[lt_cfM] at h1 h2
 unfold ltM at h1 h2
 apply Fin.ext
 by_cases k1:hb≤x.val<;>by_cases k2:hb≤y.val<;>simp[k1,k2] at h1 h2<;>omega
theorem inOld_cell (b o:Nat) (half a:Int) (hh:1≤half∧half≤65536) (w:World) (hc:w.cell? ⟨b,o,none⟩=some (.int .i64 half)) :
  Calls Tryz.prog 101 #[.pointer (some ⟨b,o,none⟩),.int .i64 a] w fun e w'=>e=.returned (.bool (decide (2*half≤a)))∧w'=w:=by
 have i1:IntKind.i64.wrap (2*half)=2*half:=IntWalk.i64_in _ (by omega)
 have hb:=cell_lt hc
 simp only at hb
 go_enter Tryz.func101,Tryz.ntmps101
 go_wp2
 go_ret
 exact⟨rfl,rfl⟩
theorem cmp1_oo (b xb:Nat) (half:Int) (hh:1≤half∧half≤65536) (X Y:Int) (hX:0≤X∧X≤1048576) (hY:0≤Y∧Y≤1048576) (k1:2*half≤X) (k2:2*half≤Y) (w:World) (h0:w.cell? ⟨xb,0,none⟩=some (.pointer (some ⟨b,0,none⟩))) (hc:w.cell? ⟨b,0,none⟩=some (.int .i64 half)) :
  Calls Tryz.prog 100 #[.int .i64 X,.int .i64 Y,.pointer (some ⟨xb,0,none⟩)] w fun e w'=>e=.returned (.int .i64 (X-Y))∧∃ q,w'=w.drewN q:=by
 have i2:IntKind.i64.wrap (X-Y)=X-Y:=IntWalk.i64_in _ (by omega)
 have HC:=Lib.hid hc
 have HI:Hid (∀ (a:Int) (W:World),W.cell? ⟨b,0,none⟩=some (.int .i64 half)→Calls Tryz.prog 101 #[.pointer (some ⟨b,0,none⟩),.int .i64 a] W fun e w'=>e=.returned (.bool (decide (2*half≤a)))∧w'=W):=fun a W hW=>inOld_cell b 0 half a hh W hW
 have d1:decide (2*half≤X)=true:=by simpa using k1
 have d2:decide (2*half≤Y)=true:=by simpa using k2
 clear hc k1 k2 hX hY hh
 go_enter Tryz.func100,Tryz.ntmps100
 go_wp2
 go_quiet (first
  | (go_at_call 101;exact Calls.quiet_of_same (HI.out _ _ (Ext.cell_ (ext_drewN _ _) HC.out))))
 go_wp2
 go_ret
 exact⟨rfl,_,rfl⟩
theorem cmp1_oy (b xb:Nat) (half:Int) (hh:1≤half∧half≤65536) (X Y:Int) (hX:0≤X∧X≤1048576) (hY:0≤Y∧Y≤1048576) (k1:2*half≤X) (k2:¬2*half≤Y) (w:World) (h0:w.cell? ⟨xb,0,none⟩=some (.pointer (some ⟨b,0,none⟩))) (hc:w.cell? ⟨b,0,none⟩=some (.int .i64 half)) :
  Calls Tryz.prog 100 #[.int .i64 X,.int .i64 Y,.pointer (some ⟨xb,0,none⟩)] w fun e w'=>e=.returned (.int .i64 (-1))∧∃ q,w'=w.drewN q:=by
 have i2:IntKind.i64.wrap (X-Y)=X-Y:=IntWalk.i64_in _ (by omega)
 have HC:=Lib.hid hc
 have HI:Hid (∀ (a:Int) (W:World),W.cell? ⟨b,0,none⟩=some (.int .i64 half)→Calls Tryz.prog 101 #[.pointer (some ⟨b,0,none⟩),.int .i64 a] W fun e w'=>e=.returned (.bool (decide (2*half≤a)))∧w'=W):=fun a W hW=>inOld_cell b 0 half a hh W hW
 have d1:decide (2*half≤X)=true:=by simpa using k1
 have d2:decide (2*half≤Y)=false:=by simpa using k2
 clear hc k1 k2 hX hY hh
 go_enter Tryz.func100,Tryz.ntmps100
 go_wp2
 go_quiet (first
  | (go_at_call 101;exact Calls.quiet_of_same (HI.out _ _ (Ext.cell_ (ext_drewN _ _) HC.out))))
 go_wp2_with (go_at_call 101;refine (HI.out _ _ (Ext.cell_ (ext_drewN _ _) HC.out)).mono ?_;rintro e w' ⟨rfl,hw9⟩;have hw9:=hw9.symm;subst hw9)
 go_ret
 exact⟨rfl,_,rfl⟩
theorem cmp1_yo (b xb:Nat) (half:Int) (hh:1≤half∧half≤65536) (X Y:Int) (hX:0≤X∧X≤1048576) (hY:0≤Y∧Y≤1048576) (k1:¬2*half≤X) (k2:2*half≤Y) (w:World) (h0:w.cell? ⟨xb,0,none⟩=some (.pointer (some ⟨b,0,none⟩))) (hc:w.cell? ⟨b,0,none⟩=some (.int .i64 half)) :
  Calls Tryz.prog 100 #[.int .i64 X,.int .i64 Y,.pointer (some ⟨xb,0,none⟩)] w fun e w'=>e=.returned (.int .i64 (1))∧∃ q,w'=w.drewN q:=by
 have i2:IntKind.i64.wrap (X-Y)=X-Y:=IntWalk.i64_in _ (by omega)
 have HC:=Lib.hid hc
 have HI:Hid (∀ (a:Int) (W:World),W.cell? ⟨b,0,none⟩=some (.int .i64 half)→Calls Tryz.prog 101 #[.pointer (some ⟨b,0,none⟩),.int .i64 a] W fun e w'=>e=.returned (.bool (decide (2*half≤a)))∧w'=W):=fun a W hW=>inOld_cell b 0 half a hh W hW
 have d1:decide (2*half≤X)=false:=by simpa using k1
 have d2:decide (2*half≤Y)=true:=by simpa using k2
 clear hc k1 k2 hX hY hh
 go_enter Tryz.func100,Tryz.ntmps100
 go_wp2
 go_quiet (first
  | (go_at_call 101;exact Calls.quiet_of_same (HI.out _ _ (Ext.cell_ (ext_drewN _ _) HC.out))))
 go_wp2_with (go_at_call 101;refine (HI.out _ _ (Ext.cell_ (ext_drewN _ _) HC.out)).mono ?_;rintro e w' ⟨rfl,hw9⟩;have hw9:=hw9.symm;subst hw9)
 go_ret
 exact⟨rfl,_,rfl⟩
theorem cmp1_yy (b xb:Nat) (half:Int) (hh:1≤half∧half≤65536) (X Y:Int) (hX:0≤X∧X≤1048576) (hY:0≤Y∧Y≤1048576) (k1:¬2*half≤X) (k2:¬2*half≤Y) (w:World) (h0:w.cell? ⟨xb,0,none⟩=some (.pointer (some ⟨b,0,none⟩))) (hc:w.cell? ⟨b,0,none⟩=some (.int .i64 half)) :
  Calls Tryz.prog 100 #[.int .i64 X,.int .i64 Y,.pointer (some ⟨xb,0,none⟩)] w fun e w'=>e=.returned (.int .i64 (X-Y))∧∃ q,w'=w.drewN q:=by
 have i2:IntKind.i64.wrap (X-Y)=X-Y:=IntWalk.i64_in _ (by omega)
 have HC:=Lib.hid hc
 have HI:Hid (∀ (a:Int) (W:World),W.cell? ⟨b,0,none⟩=some (.int .i64 half)→Calls Tryz.prog 101 #[.pointer (some ⟨b,0,none⟩),.int .i64 a] W fun e w'=>e=.returned (.bool (decide (2*half≤a)))∧w'=W):=fun a W hW=>inOld_cell b 0 half a hh W hW
 have d1:decide (2*half≤X)=false:=by simpa using k1
 have d2:decide (2*half≤Y)=false:=by simpa using k2
 clear hc k1 k2 hX hY hh
 go_enter Tryz.func100,Tryz.ntmps100
 go_wp2
 go_quiet (first
  | (go_at_call 101;exact Calls.quiet_of_same (HI.out _ _ (Ext.cell_ (ext_drewN _ _) HC.out))))
 go_wp2
 go_ret
 exact⟨rfl,_,rfl⟩
theorem cmp1_walk (b xb:Nat) (half:Int) (hb:Nat) (hhb:(hb:Int)=2*half) (hh:1≤half∧half≤65536) (x y:A20) (w:World) (h0:w.cell? ⟨xb,0,none⟩=some (.pointer (some ⟨b,0,none⟩))) (hc:w.cell? ⟨b,0,none⟩=some (.int .i64 half)) :
  Calls Tryz.prog 100 #[.int .i64 (x.val:Int),.int .i64 (y.val:Int),.pointer (some ⟨xb,0,none⟩)] w fun e w'=>e=.returned (.int .i64 (cfM hb x y))∧∃ q,w'=w.drewN q:=by
 have hx:=x.isLt
 have hy:=y.isLt
 unfold cfM
 by_cases k1:hb≤x.val
 ·by_cases k2:hb≤y.val
  ·rw[decide_eq_true k1,decide_eq_true k2,if_pos rfl]
   exact cmp1_oo b xb half hh _ _ ⟨by omega,by omega⟩ ⟨by omega,by omega⟩ (by omega) (by omega) w h0 hc
  ·rw[decide_eq_true k1,decide_eq_false k2,if_neg (by decide),if_pos k1]
   exact cmp1_oy b xb half hh _ _ ⟨by omega,by omega⟩ ⟨by omega,by omega⟩ (by omega) (by omega) w h0 hc
 ·by_cases k2:hb≤y.val
  ·rw[decide_eq_false k1,decide_eq_true k2,if_neg (by decide),if_neg k1]
   exact cmp1_yo b xb half hh _ _ ⟨by omega,by omega⟩ ⟨by omega,by omega⟩ (by omega) (by omega) w h0 hc
  ·rw[decide_eq_false k1,decide_eq_false k2,if_pos rfl]
   exact cmp1_yy b xb half hh _ _ ⟨by omega,by omega⟩ ⟨by omega,by omega⟩ (by omega) (by omega) w h0 hc
end Go.Proofs.YtelhoppfidibiaaGreatDoor
