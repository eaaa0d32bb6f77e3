/- The law HeapAlike: the closed facts of its row, each by itself. -/
import Derived.Test.YtelhoppfidibiaaGreatDoorCards
import Derived.JoinedCond
import Derived.Lib.SmallJoins
import Derived.ProofKit
import Derived.Test.YtelhoppfidibiaaGreatDoorJTa17
import Derived.Test.YtelhoppfidibiaaGreatDoorJTa21
import Derived.Test.YtelhoppfidibiaaGreatDoorJTa22
set_option linter.unusedSimpArgs false
set_option linter.unusedVariables false
set_option maxHeartbeats 40000000
namespace Go.Proofs.YtelhoppfidibiaaGreatDoor.HeapAlike
open Go.ChangeShapes Go.WideShapes Go.ChangeAt Go.RowKit
theorem closed:joinedFacts Tryz.prog 7 Tryz.f7 (OpenSpec.ofChange Rows.heapAlikeSpec).bare Rows.heapAlikeRow=true:=by
 unfold joinedFacts
 repeat' (with_reducible refine Bool.and_eq_true_iff.2 ⟨?_,?_⟩)
 all_goals as_aux_lemma=>kernel_rfl
end Go.Proofs.YtelhoppfidibiaaGreatDoor.HeapAlike
namespace Go.Proofs.YtelhoppfidibiaaGreatDoor
open Go.RowKit
def goC (M0:Mem) (C:Col) (a:Nat):Nat:=if a∈(partO M0).1.map (·.a) then a else ((mlook C.mv (a:Int)).getD 0).toNat
def DomC (M0:Mem) (C:Col) (a:Nat):Prop:=∃ b,Img M0 C.mv a b
section
variable {M0:Mem} {ten:Int} {C:Col}
theorem Fin_.go (h:Fin_ M0 ten C) (hr:Ready M0 ten) {a b:Nat} (hi:Img M0 C.mv a b):goC M0 C a=b:=by
 obtain⟨D,hv⟩:=h.inv
 unfold goC
 rcases hi with⟨rfl,hm⟩|hm
 ·rw[if_pos hm]
 ·have hn:¬a∈(partO M0).1.map (·.a):=fun q=>by
   obtain⟨x,hx,ex⟩:=List.mem_map.1 q
   obtain⟨y,hy,ey⟩:=hv.keyN hm
   have r1:=hr.inO hx
   have r2:=hr.inN hy
   obtain⟨hh,e1,e2,e3,e4,e5,e6,e7,e8,e9,e10,e11,e12⟩:=hr.shp.nums
   rcases e3 with⟨u1,u2,u3⟩|⟨u1,u2,u3⟩<;>omega
  rw[if_neg hn,mlook_of hv.nodupI hm];simp
theorem Fin_.img (h:Fin_ M0 ten C) (hr:Ready M0 ten) {a:Nat} (hd:DomC M0 C a):Img M0 C.mv a (goC M0 C a):=by
 obtain⟨b,hi⟩:=hd
 rw[h.go hr hi];exact hi
theorem Fin_.corr (h:Fin_ M0 ten C) (hr:Ready M0 ten) {u v:Int} (hf:fldB (startsM M0) u=true) (hv:Fol M0 C.mv u v):Cor (goC M0 C) (DomC M0 C) u v:=by
 rcases h.cor hr hf hv with⟨q,e⟩|⟨a,b,q1,q2,q3,q4,q5,q6,q7,⟨x,hx,ex⟩,q8⟩
 ·left
  refine⟨?_,e⟩
  unfold ptsW
  rw[if_neg (fun r=>by rcases q with q|q;exact q r.1;exact r.2.1 q)];omega
 ·right
  have hb:=h.small hr q4
  have ha:a≤1000000:=by
   have:=(mem_in hr.shp hx).1
   have:=len_small hr.shp
   omega
  have e1:ptsW u=(a:Int):=by unfold ptsW;rw[if_pos ⟨q1,q2,by unfold placeW at q3;omega⟩];exact q3
  have e2:ptsW v=(b:Int):=by unfold ptsW;rw[if_pos ⟨q5,q6,by unfold placeW at q7;omega⟩];exact q7
  exact⟨a,e1,⟨b,q4⟩,by rw[h.go hr q4];exact e2,q1,q2,q5,q6⟩
theorem Fin_.morph (h:Fin_ M0 ten C) (hr:Ready M0 ten):Morph M0.W (finM M0 C).W (DomC M0 C) (goC M0 C):=by
 obtain⟨D,hv⟩:=h.inv
 refine⟨fun a b ha hb e=>?_,fun a ha=>(hv.hd hr (h.img hr ha)).2.2.1,fun a ha=>?_,fun a ha hq k hk=>?_,fun a ha hq k hk=>(h.fld (h.img hr ha) hk).1 hq⟩
 ·have h1:=h.img hr ha
  have h2:=h.img hr hb
  rw[e] at h1
  exact hv.inj hr h1 h2
 ·obtain⟨d1,d2,d3,d4,d5⟩:=hv.hd hr (h.img hr ha)
  have z1:=(hd_in (wat M0.W a) (wat_in hr.ok a).1).2.2.2.2.2.2
  have z2:=(hd_in (wat C.M.W (goC M0 C a)) (wat_in hv.ok _).1).2.2.2.2.2.2
  unfold szW at d4
  show hSize (wat C.M.W (goC M0 C a))=_
  omega
 ·exact h.corr hr (hv.fldB_ hr (h.img hr ha) hq hk) ((h.fld (h.img hr ha) hk).2 hq)
theorem Fin_.reach (h:Fin_ M0 ten C) (hr:Ready M0 ten):reachP (finM M0 C)=(reachP M0).map (fun o=>obW C.M.W (goC M0 C o.a))∧InD M0.W (DomC M0 C) (reachP M0):=by
 have hg:=(good_parts (chk_zero hr.chk).1).2.2.1
 unfold fieldsB at hg
 rw[List.all_eq_true] at hg
 have hl:(finM M0 C).W.length=M0.W.length:=by obtain⟨D,hv⟩:=h.inv;exact hv.like.lenW
 exact reach_sim (h.morph hr) hl h.rootsL.symm fun i hi=>h.corr hr (getD_in hg hi) (h.roots i hi)
end
end Go.Proofs.YtelhoppfidibiaaGreatDoor
namespace Go.Proofs.YtelhoppfidibiaaGreatDoor
open Go.RowKit
section
variable {M:Mem} {ten:Int}
theorem collectC_chk (hr:Ready M ten):chk (collectC M ten)=0:=by rw[collectC_fin];exact (collect_fin hr).chk hr
end
end Go.Proofs.YtelhoppfidibiaaGreatDoor
namespace Go.Proofs.YtelhoppfidibiaaGreatDoor
open Go.RowKit
section
variable {M:Mem} {ten:Int}
end
structure Grown (M0:Mem) (ten:Int) (k:Nat) (N:Mem):Prop where
 ok:N.Ok
 chk:chk N=0
 few:Few N
 graph:graphS N=graphS M0
 ages:∀ x∈(partN N).1,(k:Int)≤hAge x.w
 lt:0<k→∀ x∈(partN N).1,hAge x.w≤ten
end Go.Proofs.YtelhoppfidibiaaGreatDoor
namespace Go.Proofs.YtelhoppfidibiaaGreatDoor
open Go.RowKit
theorem minor_kept {M:Mem} {ten:Int} (hr:Ready M ten):Kept false M (collectC M ten) (lastC (col4 M ten)) (DomC M (col4 M ten)) (goC M (col4 M ten)):=by
 have hf:=collect_fin hr
 have hg:=(chk_zero hr.chk).1
 have hgN:=(chk_zero (collectC_chk hr)).1
 obtain⟨D,hv⟩:=hf.inv
 have hro:=(good_parts hg).2.2.1
 refine⟨hf.morph hr,hv.like.lenW,hf.rootsL.symm,fun i hi=>hf.corr hr (fieldsB_at hro hi) (hf.roots i hi),?_,?_,fun u hu hl=>hf.corr hr hu (last_fol hv.like hl),fun u hu hl=>?_,(fun h=>by cases h),hg,hgN⟩
 ·show weakC (col4 M ten)=_
  unfold weakC
  rw[hv.like.weak]
 ·show idsC (col4 M ten)=_
  unfold idsC
  rw[hv.like.ids]
 ·unfold lastC at hl
  rw[hv.like.stays] at hl
  cases hs:stays M u with
  | true=>rw[hs] at hl;simp at hl
  | false =>
   have hy:youngB M u=true:=by unfold stays at hs;simpa using hs
   rw[hs] at hl
   have hyy:=hy
   unfold youngB oldB at hyy
   simp only[Bool.and_eq_true,beq_iff_eq,bne_iff_ne,ne_eq,Bool.not_eq_true',decide_eq_false_iff_not] at hyy
   obtain⟨⟨k1,k2⟩,k3⟩:=hyy
   have hp:pointedB u=true:=by
    unfold kindW at k1
    unfold pointedB
    simp[k1,k2]
   refine⟨hp,?_⟩
   cases hm:mlook (col4 M ten).mv (placeW u) with
   | some tq=>rw[hm] at hl;simp at hl
   | none =>
    cases hq:ledB M u with
    | false=>rfl
    | true =>
     exfalso
     unfold ledB at hq
     simp only[Bool.and_eq_true,decide_eq_true_eq] at hq
     obtain⟨q1,q2⟩:=hq
     obtain⟨o,ho,e⟩:=List.mem_map.1 (List.contains_iff_mem.1 q2)
     have ep:ptsW u=placeW u:=by
      unfold ptsW at q1 ⊢
      split at q1
      ·rename_i hc;rw[if_pos hc]
      ·omega
     obtain⟨b,hi⟩:=((hf.reach hr).2 o ho).1
     rcases hi with⟨_,hm2⟩|hm2
     ·obtain⟨x,hx,ex⟩:=List.mem_map.1 hm2
      have:=(hr.inO hx).2.2.1
      unfold hbM at this
      omega
     ·have:=mlook_none hm _ hm2
      simp only at this
      omega
end Go.Proofs.YtelhoppfidibiaaGreatDoor
