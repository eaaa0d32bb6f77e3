/- Behind the major collection: the memory is right, its graph the same: plainly. -/
import Derived.Test.YtelhoppfidibiaaGreatDoorJTa24
import Derived.Test.YtelhoppfidibiaaGreatDoorJTa26
import Derived.Test.YtelhoppfidibiaaGreatDoorJTa17
import Derived.Test.YtelhoppfidibiaaGreatDoorJTa15
import Derived.Laws.CopyOwn
import Derived.Test.YtelhoppfidibiaaGreatDoorJTa16
set_option linter.unusedSimpArgs false
set_option linter.unusedVariables false
namespace Go.Proofs.YtelhoppfidibiaaGreatDoor
open Go.RowKit
def U64 (x:Int):Prop:=0≤x∧x≤18446744073709551615
theorem fw1_u64 (M:Mem) {u:Int} (h:U64 u):U64 (fw1 M u):=by
 unfold fw1 fwM
 split
 ·exact h
 ·split
  ·exact addrW_u64 _
  ·exact⟨by decide,by decide⟩
theorem wat_u64 {W:List Int} (h:∀ x∈W,U64 x) (i:Nat):U64 (wat W i):=by
 unfold wat
 by_cases q:i<W.length
 ·exact getD_in (P:=U64) h q
 ·rw[List.getD_eq_getElem?_getD,List.getElem?_eq_none (by omega)]
  exact⟨by decide,by decide⟩
theorem splice_memI {L:List Int} {off:Nat} {cs:List Int} {x:Int} (h:x∈splice L off cs):x∈L∨x∈cs:=by
 unfold splice at h
 rcases List.mem_append.1 h with h|h
 ·exact Or.inl (List.mem_of_mem_take h)
 ·rcases List.mem_append.1 h with h|h
  ·exact Or.inr h
  ·exact Or.inl (List.mem_of_mem_drop h)
theorem fwdW_u64 {fw:Int→Int} (hf:∀ u,U64 u→U64 (fw u)):∀ (n:Nat) (W:List Int) (i:Nat),(∀ x∈W,U64 x)→∀ x∈fwdW fw W i n,U64 x
 | 0,_,_,h=>h
 | n+1,W,i,h=>fwdW_u64 hf n _ _ fun x hx=>by
  rcases List.mem_or_eq_of_mem_set hx with q|q
  ·exact h x q
  ·subst q;exact hf _ (wat_u64 h i)
theorem slide0_u64 {hb:Nat} {Y W:List Int} {a t:Nat} (hw:∀ x∈W,U64 x) (hy:∀ x∈Y,U64 x) (hd:isHd (wat W a)=true):∀ x∈slide0 hb Y W a t,U64 x:=fun x hx=>by
 unfold slide0 at hx
 rcases List.mem_or_eq_of_mem_set hx with q|q
 ·rcases splice_memI q with q|q
  ·exact hw x q
  ·have:=List.mem_of_mem_drop (List.mem_of_mem_take q)
   unfold srcW at this
   split at this
   ·exact hw x this
   ·exact hy x this
 ·subst q
  have h0:=(wat_u64 hw a).1
  obtain⟨k0,k1,a0,a1,m0,m1,z0⟩:=hd_in (wat W a) h0
  exact headW_u64 ⟨k0,k1⟩ ⟨by omega,by omega⟩ ⟨m0,m1⟩ ⟨z0,((isHd_iff _).1 hd).2.2⟩
theorem slide1_u64 {hb:Nat} {fw:Int→Int} (hf:∀ u,U64 u→U64 (fw u)) {Y W:List Int} {p:Nat × Nat} (hw:∀ x∈W,U64 x) (hy:∀ x∈Y,U64 x) (hd:isHd (wat W p.1)=true):∀ x∈slide1 hb fw Y W p,U64 x:=by
 unfold slide1
 split
 ·exact slide0_u64 hw hy hd
 ·exact fwdW_u64 hf _ _ _ (slide0_u64 hw hy hd)
section
variable {M:Mem}
theorem Full.hdM (h:Full M) {a:Nat} (ha:DomM M a):isHd (wat M.W a)=true∧hMark (wat M.W a)=0∧a+1+szW M.W a≤M.W.length:=by
 obtain⟨x,hx,ex,-,hw⟩:=h.dom ha
 obtain⟨p1,p2,p3,p4⟩:=h.place hx
 obtain⟨hh,e1,e2,e4,e5,e6,e7,e8,e9,e10,e12⟩:=h.nums
 rw[ex] at p2 p3 p4
 refine⟨p2,p3,?_⟩
 rcases p4 with⟨q1,q2⟩|⟨q1,q2,q3⟩<;>omega
theorem Full.words (h:Full M):∀ k,k≤(ordP M).length→∀ x∈majWk M k,U64 x
 | 0,_=>fun x hx=>h.ok.W x hx
 | k+1,hk=>by
  have hlt:k<(ordP M).length:=by omega
  rw[majWk_next hlt]
  have hm:((ordP M)[k],topAt M k)∈toM M:=by
   rw[←toM_at hlt];exact List.getElem_mem _
  refine slide1_u64 (fun u hu=>fw1_u64 M hu) (Full.words h k (by omega)) (fun x hx=>h.ok.W x (List.mem_of_mem_take hx)) ?_
  have hs:=(h.slidAt k).hd_ (h.fits _ hm)
  rw[hs]
  exact (h.hdM (toM_dom hm)).1
theorem Full.wordsE (h:Full M):∀ x∈majW M,U64 x:=by
 rw[←majWk_end]
 exact h.words _ (Nat.le_refl _)
end
def majM (M:Mem):Mem:={M with W:=majW M,roots:=M.roots.map (fw1 M),weak:=M.weak.map (fw1 M),ids:=M.ids.filterMap fun x=>if (fwM M x.1).2 then some ((fwM M x.1).1,x.2) else none,top:=0,oldTop:=(liveM M:Int),cards:=List.replicate M.cards.length false}
section
variable {M:Mem}
theorem Full.shpN (h:Full M):Shp (majM M):=by
 have hs:=h.shp
 have hr:=h.room
 exact⟨hs.h1,hs.h2,hs.o1,hs.o2,hs.c1,hs.c2,by show ((majW M).length:Int)=_;rw[h.slid.len];exact hs.w,hs.u1,hs.u2,Int.le_refl _,by show (0:Int)≤M.half;have:=hs.h1;omega,by show (0:Int)≤(liveM M:Int);omega,hr,by show ((List.replicate M.cards.length false).length:Int)=_;rw[List.length_replicate];exact hs.cl⟩
theorem Full.okN (h:Full M):(majM M).Ok:=by
 have ho:=h.ok
 have hs:=h.shpN
 have h1:=hs.p2;have h2:=hs.o2;have h3:=hs.p1
 refine⟨ho.half,ho.old,ho.card,ho.used,by show (-9223372036854775808:Int)≤0∧(0:Int)≤_;omega,by have:(majM M).old=M.old:=rfl;omega,h.wordsE,fun x hx=>?_,fun x hx=>?_,fun x hx=>?_,?_,?_,?_,?_,?_⟩
 ·obtain⟨u,hu,rfl⟩:=List.mem_map.1 hx
  exact fw1_u64 M (ho.roots u hu)
 ·obtain⟨u,hu,rfl⟩:=List.mem_map.1 hx
  exact fw1_u64 M (ho.weak u hu)
 ·obtain⟨y,hy,e⟩:=List.mem_filterMap.1 hx
  split at e
  ·injection e with e
   subst e
   exact⟨fw1_u64 M (ho.ids y hy).1,(ho.ids y hy).2⟩
  ·cases e
 ·show (majW M).length≤_
  rw[h.slid.len];exact ho.lenW
 ·show (M.roots.map (fw1 M)).length≤_
  rw[List.length_map];exact ho.lenR
 ·show (M.weak.map (fw1 M)).length≤_
  rw[List.length_map];exact ho.lenK
 ·exact Nat.le_trans (List.length_filterMap_le _ _) ho.lenI
 ·show (List.replicate M.cards.length false).length≤_
  rw[List.length_replicate];exact ho.lenC
theorem Full.to_in (h:Full M) {a:Nat} (ha:DomM M a):hbM M≤toOf M a∧toOf M a+1+szW M.W a≤hbM M+liveM M∧toOf M a≤1000000:=by
 have hge:=topsW_ge M.W (ordP M) (hbM M) _ (toOf_mem ha)
 have he:endW M.W (hbM M) (ordP M)=hbM M+liveM M:=h.endE
 obtain⟨hh,e1,e2,e4,e5,e6,e7,e8,e9,e10,e12⟩:=h.nums
 have hr:=h.room
 simp only at hge
 exact⟨hge.1,by omega,by omega⟩
theorem Full.inj (h:Full M) {a b:Nat} (ha:DomM M a) (hb:DomM M b) (e:toOf M a=toOf M b):a=b:=by
 have hp:=topsW_pair M.W (ordP M) (hbM M)
 have h1:=toOf_mem ha
 have h2:=toOf_mem hb
 have hnd:((toM M).map (·.2)).Nodup:=by
  unfold List.Nodup
  rw[List.pairwise_map]
  exact hp.imp fun hxy q=>by omega
 have:=nodup_map_inj hnd h1 h2 e
 injection this
theorem Full.hdN (h:Full M) {a:Nat} (ha:DomM M a):isHd (wat (majW M) (toOf M a))=true∧hKind (wat (majW M) (toOf M a))=hKind (wat M.W a)∧hAge (wat (majW M) (toOf M a))=0∧hMark (wat (majW M) (toOf M a))=0∧szW (majW M) (toOf M a)=szW M.W a:=by
 have e:=h.slid.head _ (toOf_mem ha)
 simp only at e
 obtain⟨d1,d2,d3⟩:=h.hdM ha
 obtain⟨r1,r2,r3,r4,r5⟩:=ageless_hd (wat_in h.ok a).1 d1
 rw[e]
 exact⟨r1,r2,r3,by rw[r4];exact d2,by unfold szW;rw[e,r5]⟩
theorem Full.fw (h:Full M) {u:Int} (hf:fldB (startsM M) u=true) :
  ((kindW u≠0∨u=0)∧fwM M u=(u,true))∨∃ a:Nat,kindW u=0∧u≠0∧placeW u=(a:Int)∧ptsW u=(a:Int)∧(∃ x∈objsAll M,x.a=a)∧((DomM M a∧fwM M u=(addrW (toOf M a),true))∨(¬DomM M a∧fwM M u=(2,false))):=by
 by_cases hk:kindW u≠0∨u=0
 ·exact Or.inl ⟨hk,if_pos hk⟩
 ·right
  have hk1:kindW u=0:=by omega
  have hk2:u≠0:=by omega
  have hp:pointedB u=true:=by
   unfold kindW at hk1
   unfold pointedB
   simp[hk1,hk2]
  have hpt:=pointed_pts h.good hf hp
  have ep:ptsW u=placeW u:=by
   unfold ptsW at hpt ⊢
   split at hpt
   ·rename_i hc;rw[if_pos hc]
   ·omega
  have hin:placeW u∈startsM M:=by
   unfold fldB at hf
   rw[if_pos hk1] at hf
   simp only[Bool.or_eq_true,beq_iff_eq] at hf
   rcases hf with q|q
   ·exact absurd q hk2
   ·exact List.contains_iff_mem.1 q
  obtain⟨x,hx,e⟩:=List.mem_map.1 hin
  refine⟨x.a,hk1,hk2,e.symm,by rw[ep];exact e.symm,⟨x,hx,rfl⟩,?_⟩
  have hd:inSt (ats (reachP M)) (placeW u)=true↔DomM M x.a:=by
   rw[inSt_obs]
   unfold DomM
   rw[List.mem_map]
   constructor
   ·rintro⟨o,ho,q⟩;exact⟨o,ho,by omega⟩
   ·rintro⟨o,ho,q⟩;exact⟨o,ho,by omega⟩
  unfold fwM
  rw[if_neg hk]
  by_cases q:DomM M x.a
  ·left
   rw[if_pos (hd.2 q),←e]
   exact⟨q,rfl⟩
  ·right
   rw[if_neg (fun r=>q (hd.1 r))]
   exact⟨q,rfl⟩
theorem Full.cor (h:Full M) {u:Int} (hf:fldB (startsM M) u=true) (hy:(fwM M u).2=true):Cor (toOf M) (DomM M) u (fw1 M u):=by
 unfold fw1
 rcases h.fw hf with⟨q,e⟩|⟨a,k1,k2,k3,k4,-,⟨d,e⟩|⟨d,e⟩⟩
 ·left
  rw[e]
  refine⟨?_,rfl⟩
  unfold ptsW
  rw[if_neg (fun r=>by rcases q with q|q;exact q r.1;exact r.2.1 q)];omega
 ·right
  rw[e]
  have ht:=h.to_in d
  have hw:=addrW_wd (toOf M a:Int)
  have hp:=placeW_addrW (toOf M a:Int) ⟨by omega,by omega⟩
  have hn:addrW (toOf M a:Int)≠0:=by unfold addrW;omega
  refine⟨a,k4,d,?_,k1,k2,hw.2.2,hn⟩
  unfold ptsW
  rw[if_pos ⟨hw.2.2,hn,by unfold placeW at hp;omega⟩];exact hp
 ·rw[e] at hy;cases hy
theorem Full.fw_in (h:Full M) {u:Int} (hf:fldB (startsM M) u=true) (hi:InO (reachP M) u):(fwM M u).2=true:=by
 rcases h.fw hf with⟨q,e⟩|⟨a,k1,k2,k3,k4,-,⟨d,e⟩|⟨d,e⟩⟩
 ·rw[e]
 ·rw[e]
 ·exfalso
  apply d
  have:=hi (by omega)
  rw[k4,inSt_obs] at this
  obtain⟨o,ho,q⟩:=this
  exact List.mem_map.2 ⟨o,ho,by omega⟩
theorem Full.fld_in (h:Full M) {a:Nat} (ha:DomM M a) (hr:rawB (hKind (wat M.W a))=false) {k:Nat} (hk:k<szW M.W a):fldB (startsM M) (wat M.W (a+1+k))=true∧InO (reachP M) (wat M.W (a+1+k)):=by
 obtain⟨x,hx,rfl,hx2,hw⟩:=h.dom ha
 have hfo:=(good_parts h.good).2.2.2.2.1
 have hn:x.n=szW M.W x.a:=by unfold Ob.n szW;rw[hw]
 refine⟨fld_ok hfo hx (by rw[hw];exact hr) k (by omega),?_⟩
 rcases reachP_shut h.good x hx2 with q|q
 ·rw[hw,hr] at q;cases q
 ·exact q _ (List.mem_map.2 ⟨k,List.mem_range.2 (by omega),rfl⟩)
theorem Full.morph (h:Full M):Morph M.W (majM M).W (DomM M) (toOf M):=by
 refine⟨fun a b ha hb e=>h.inj ha hb e,fun a ha=>(h.hdN ha).2.1,fun a ha=>?_,fun a ha hr k hk=>?_,fun a ha hr k hk=>h.slid.raw _ (toOf_mem ha) hr k hk⟩
 ·have e:=h.slid.head _ (toOf_mem ha)
  simp only at e
  show hSize (wat (majW M) (toOf M a))=_
  rw[e]
  exact (ageless_hd (wat_in h.ok a).1 (h.hdM ha).1).2.2.2.2
 ·have e:=h.slid.fld _ (toOf_mem ha) hr k hk
  obtain⟨f1,f2⟩:=h.fld_in ha hr hk
  show Cor _ _ _ (wat (majW M) (toOf M a+1+k))
  rw[e]
  exact h.cor f1 (h.fw_in f1 f2)
theorem laid_tops {V W:List Int}:∀ (l:List Nat) (t:Nat),(∀ p∈topsW V t l,isHd (wat W p.2)=true∧szW W p.2=szW V p.1)→Laid W t ((topsW V t l).map (·.2)) (endW V t l)
 | [],t,_=>rfl
 | a::l,t,hp=>by
  obtain⟨h1,h2⟩:=hp (a,t) (by simp[topsW])
  simp only at h1 h2
  rw[topsW,endW,List.map_cons]
  refine⟨rfl,h1,?_⟩
  rw[h2]
  exact laid_tops l _ fun p hpm=>hp p (by rw[topsW];exact List.mem_cons_of_mem _ hpm)
theorem Full.parts (h:Full M):partN (majM M)=([],true)∧partO (majM M)=(((toM M).map (·.2)).map (obW (majW M)),true):=by
 have hs:=h.shpN
 constructor
 ·unfold partN
  show part (majW M) (majM M).base ((majM M).base+(0:Int).toNat)=_
  exact part_done _ _ _ (by simp)
 ·have hl:Laid (majW M) (hbM M) ((toM M).map (·.2)) (endM M):=laid_tops (ordP M) (hbM M) fun p hp=>by
   have hd:=toM_dom (M:=M) hp
   have e:=toM_of h.good (p:=p) hp
   have:=h.hdN hd
   rw[e] at this
   exact⟨this.1,this.2.2.2.2⟩
  unfold partO
  show part (majW M) (2*M.half).toNat ((2*M.half).toNat+((liveM M:Nat):Int).toNat)=_
  rw[show (2*M.half).toNat=hbM M from rfl,Int.toNat_natCast,←h.endE]
  exact hl.part
theorem Full.mem (h:Full M) (y:Ob):y∈objsAll (majM M)↔∃ a,DomM M a∧y=obW (majW M) (toOf M a):=by
 obtain⟨p1,p2⟩:=h.parts
 unfold objsAll
 rw[p1,p2,List.nil_append,List.map_map,List.mem_map]
 constructor
 ·rintro⟨p,hp,rfl⟩
  exact⟨p.1,toM_dom hp,by rw[toM_of h.good hp];rfl⟩
 ·rintro⟨a,ha,rfl⟩
  exact⟨_,toOf_mem ha,rfl⟩
theorem Full.starts (h:Full M) {a:Nat} (ha:DomM M a):inSt (startsM (majM M)) (toOf M a:Int)=true:=by
 rw[inSt_iff]
 exact List.mem_map.2 ⟨_,(h.mem _).2 ⟨a,ha,rfl⟩,rfl⟩
theorem Full.fldB_ (h:Full M) {u:Int} (hf:fldB (startsM M) u=true):fldB (startsM (majM M)) (fw1 M u)=true:=by
 unfold fw1
 rcases h.fw hf with⟨q,e⟩|⟨a,k1,k2,k3,k4,-,⟨d,e⟩|⟨d,e⟩⟩
 ·rw[e]
  show fldB _ u=true
  unfold fldB at hf ⊢
  rcases q with q|q
  ·rw[if_neg q] at hf ⊢;exact hf
  ·subst q;simp[kindW]
 ·rw[e]
  show fldB _ (addrW (toOf M a))=true
  have ht:=h.to_in d
  have hp:=placeW_addrW (toOf M a:Int) ⟨by omega,by omega⟩
  unfold fldB
  rw[if_pos (show kindW (addrW (toOf M a:Int))=0 from (addrW_wd _).2.2),hp,h.starts d];simp
 ·rw[e]
  show fldB _ 2=true
  simp[fldB,kindW]
theorem Full.notYoung (h:Full M) {u:Int} (hf:fldB (startsM M) u=true):youngB (majM M) (fw1 M u)=false:=by
 unfold fw1
 rcases h.fw hf with⟨q,e⟩|⟨a,k1,k2,k3,k4,-,⟨d,e⟩|⟨d,e⟩⟩
 ·rw[e]
  show youngB _ u=false
  unfold youngB
  rcases q with q|q
  ·have:(kindW u==0)=false:=by simpa using q
   rw[this];rfl
  ·subst q;simp
 ·rw[e]
  show youngB _ (addrW (toOf M a))=false
  have ht:=h.to_in d
  have hp:=placeW_addrW (toOf M a:Int) ⟨by omega,by omega⟩
  unfold youngB oldB
  rw[hp]
  have:decide (2*(majM M).half≤(toOf M a:Int))=true:=decide_eq_true (by
   show 2*M.half≤_
   have:=ht.1
   unfold hbM at this
   omega)
  rw[this];simp
 ·rw[e]
  show youngB _ 2=false
  simp[youngB,kindW]
theorem Full.ids_in (h:Full M):∀ x∈M.ids,idGood (startsM M) x:=fun x hx=>(((idsB_iff _ _ _).1 (good_parts h.good).2.2.2.2.2).1 x hx).1
theorem Full.chkN (h:Full M):Go.Proofs.YtelhoppfidibiaaGreatDoor.chk (majM M)=0:=by
 have hg:=good_parts h.good
 have hsh:=h.shpN
 obtain⟨p1,p2⟩:=h.parts
 have hob:objsB (majM M) (okHd (majM M))=true:=by
  have hall:(objsAll (majM M)).all (okHd (majM M))=true:=by
   rw[List.all_eq_true]
   intro y hy
   obtain⟨a,ha,rfl⟩:=(h.mem y).1 hy
   obtain⟨d1,d2,d3,d4,d5⟩:=h.hdN ha
   unfold okHd
   have ew:(obW (majW M) (toOf M a)).w=wat (majW M) (toOf M a):=rfl
   rw[ew,d3,d4];rfl
  unfold objsAll at hall
  rw[List.all_append,Bool.and_eq_true] at hall
  unfold objsB
  rw[hall.1,hall.2,p1,p2];rfl
 have hro:fieldsB (startsM (majM M)) (majM M).roots=true:=by
  unfold fieldsB
  rw[List.all_eq_true]
  intro v hvm
  obtain⟨u,hu,rfl⟩:=List.mem_map.1 (show v∈M.roots.map (fw1 M) from hvm)
  refine h.fldB_ ?_
  have:=hg.2.2.1
  unfold fieldsB at this
  rw[List.all_eq_true] at this
  exact this u hu
 have hwk:fieldsB (startsM (majM M)) (majM M).weak=true:=by
  unfold fieldsB
  rw[List.all_eq_true]
  intro v hvm
  obtain⟨u,hu,rfl⟩:=List.mem_map.1 (show v∈M.weak.map (fw1 M) from hvm)
  refine h.fldB_ ?_
  have:=hg.2.2.2.1
  unfold fieldsB at this
  rw[List.all_eq_true] at this
  exact this u hu
 have hfw:∀ a,DomM M a→rawB (hKind (wat (majW M) (toOf M a)))=false→∀ k,k<szW (majW M) (toOf M a)→∃ u,fldB (startsM M) u=true∧wat (majW M) (toOf M a+1+k)=fw1 M u:=fun a ha hr k hk=>by
  obtain⟨d1,d2,d3,d4,d5⟩:=h.hdN ha
  rw[d2] at hr
  rw[d5] at hk
  exact⟨_,(h.fld_in ha hr hk).1,h.slid.fld _ (toOf_mem ha) hr k hk⟩
 have hfl:(objsAll (majM M)).all (okFld (majM M) (startsM (majM M)))=true:=by
  rw[List.all_eq_true]
  intro y hy
  obtain⟨a,ha,rfl⟩:=(h.mem y).1 hy
  unfold okFld
  cases hq:rawB (hKind (obW (majW M) (toOf M a)).w) with
  | true=>rfl
  | false =>
   rw[Bool.false_or]
   unfold fieldsB flds
   rw[List.all_eq_true]
   intro v hvm
   obtain⟨k,hk,rfl⟩:=List.mem_map.1 hvm
   obtain⟨u,hu,e⟩:=hfw a ha hq k (List.mem_range.1 hk)
   have e2:wat (majM M).W ((obW (majW M) (toOf M a)).a+1+k)=fw1 M u:=e
   rw[e2]
   exact h.fldB_ hu
 have hid:idsB (startsM (majM M)) [] (majM M).ids=true:=by
  have h0:=(idsB_iff _ _ _).1 hg.2.2.2.2.2
  have hcor:∀ x∈M.ids,(fwM M x.1).2=true→∃ a:Nat,placeW x.1=(a:Int)∧DomM M a∧(fwM M x.1).1=addrW (toOf M a)∧kindW x.1=0:=fun x hx hl=>by
   obtain⟨g1,g2,g3,g4⟩:=(h0.1 x hx).1
   have hf:fldB (startsM M) x.1=true:=by unfold fldB;rw[if_pos g1,g3];simp
   rcases h.fw hf with⟨q,e⟩|⟨a,k1,k2,k3,k4,-,⟨d,e⟩|⟨d,e⟩⟩
   ·rcases q with q|q
    ·exact absurd g1 q
    ·exact absurd q g2
   ·exact⟨a,k3,d,by rw[e],k1⟩
   ·rw[e] at hl;cases hl
  rw[idsB_iff]
  show (∀ x∈M.ids.filterMap _,_)∧(M.ids.filterMap _).Pairwise idApart
  constructor
  ·intro y hy
   obtain⟨x,hx,e⟩:=List.mem_filterMap.1 hy
   split at e
   ·rename_i hl
    injection e with e
    subst e
    obtain⟨a,q1,q2,q3,q4⟩:=hcor x hx hl
    have ht:=h.to_in q2
    refine⟨⟨?_,?_,?_,(h0.1 x hx).1.2.2.2⟩,fun z hz=>by simp at hz⟩
    ·show kindW (fwM M x.1).1=0
     rw[q3];exact (addrW_wd _).2.2
    ·show (fwM M x.1).1≠0
     rw[q3];unfold addrW;omega
    ·show inSt _ (placeW (fwM M x.1).1)=true
     rw[q3,placeW_addrW _ ⟨by omega,by omega⟩];exact h.starts q2
   ·cases e
  ·refine List.Pairwise.filterMap _ (S:=idApart) (fun p q hpq b hb b' hb'=>?_) (List.Pairwise.imp_of_mem (S:=fun p q=>p∈M.ids∧q∈M.ids∧idApart p q) (fun hp hq' hpq=>⟨hp,hq',hpq⟩) h0.2)
   obtain⟨hp,hq,hap⟩:=hpq
   split at hb
   ·rename_i hl
    split at hb'
    ·rename_i hl'
     injection hb with hb
     injection hb' with hb'
     subst hb hb'
     obtain⟨a,q1,q2,q3,q4⟩:=hcor p hp hl
     obtain⟨a',r1,r2,r3,r4⟩:=hcor q hq hl'
     refine⟨fun e=>?_,hap.2⟩
     simp only at e
     rw[q3,r3] at e
     have t1:=h.to_in q2
     have t2:=h.to_in r2
     have ee:toOf M a=toOf M a':=by unfold addrW at e;omega
     have ea:=h.inj q2 r2 ee
     subst ea
     apply hap.1
     unfold placeW at q1 r1
     unfold kindW at q4 r4
     omega
    ·cases hb'
   ·cases hb
 have hcd:cardsM (majM M)=true:=by
  unfold cardsM
  rw[List.all_eq_true]
  intro y hy
  obtain⟨a,ha,rfl⟩:=(h.mem y).1 hy
  unfold cardsO
  cases hq:rawB (hKind (obW (majW M) (toOf M a)).w) with
  | true=>rfl
  | false =>
   rw[Bool.false_or]
   unfold cardsK
   rw[List.all_eq_true]
   intro k hk
   obtain⟨u,hu,e⟩:=hfw a ha hq k (List.mem_range.1 hk)
   unfold crd
   have e2:wat (majM M).W ((obW (majW M) (toOf M a)).a+1+k)=fw1 M u:=e
   rw[e2,h.notYoung hu];simp
 have hgood:goodB (majM M)=true:=by
  unfold goodB
  rw[shapeB_of hsh,hob,hro,hwk,hfl,hid];rfl
 unfold Go.Proofs.YtelhoppfidibiaaGreatDoor.chk
 rw[hgood,hcd];rfl
theorem Full.kept (h:Full M):Kept true M (majM M) (fwM M) (DomM M) (toOf M):=by
 have hg:=good_parts h.good
 have hfb:∀ {l:List Int},fieldsB (startsM M) l=true→∀ i,i<l.length→fldB (startsM M) (l.getD i 0)=true:=fun hl i hi=>fieldsB_at hl hi
 refine⟨h.morph,h.slid.len,by show _=(M.roots.map (fw1 M)).length;rw[List.length_map],fun i hi=>?_,?_,rfl,fun u hu hy=>h.cor hu hy,fun u hu hy=>?_,fun _ u hu hy hp=>?_,h.good,(chk_zero h.chkN).1⟩
 ·have e:(majM M).roots.getD i 0=fw1 M (M.roots.getD i 0):=by
   show (M.roots.map (fw1 M)).getD i 0=_
   simp[List.getD_eq_getElem?_getD,hi]
  rw[e]
  have hf:=hfb hg.2.2.1 i hi
  refine h.cor hf (h.fw_in hf (reachP_roots M _ ?_))
  rw[List.getD_eq_getElem?_getD,List.getElem?_eq_getElem hi];exact List.getElem_mem hi
 ·show M.weak.map (fw1 M)=_
  refine List.map_congr_left fun u hu=>?_
  have hf:fldB (startsM M) u=true:=by
   have:=hg.2.2.2.1
   unfold fieldsB at this
   rw[List.all_eq_true] at this
   exact this u hu
  unfold fw1
  rcases h.fw hf with⟨q,e⟩|⟨a,k1,k2,k3,k4,-,⟨d,e⟩|⟨d,e⟩⟩<;>rw[e]<;>rfl
 ·rcases h.fw hu with⟨q,e⟩|⟨a,k1,k2,k3,k4,-,⟨d,e⟩|⟨d,e⟩⟩
  ·rw[e] at hy;cases hy
  ·rw[e] at hy;cases hy
  ·refine⟨by unfold pointedB;unfold kindW at k1;simp[k1,k2],?_⟩
   unfold ledB
   rw[k4]
   cases q:inSt (ats (reachP M)) (a:Int) with
   | false=>simp
   | true =>
    obtain⟨o,ho,e2⟩:=inSt_obs.1 q
    exact absurd (List.mem_map.2 ⟨o,ho,by omega⟩) d
 ·rcases h.fw hu with⟨q,e⟩|⟨a,k1,k2,k3,k4,-,⟨d,e⟩|⟨d,e⟩⟩
  ·unfold pointedB at hp
   simp only[Bool.and_eq_true,decide_eq_true_eq] at hp
   unfold kindW at q
   omega
  ·unfold ledB
   rw[k4]
   have:inSt (ats (reachP M)) (a:Int)=true:=by
    obtain⟨o,ho,e2⟩:=List.mem_map.1 d
    exact inSt_obs.2 ⟨o,ho,by omega⟩
   rw[this];simp
  ·rw[e] at hy;cases hy
end
theorem live_map {M N:Mem} {Dom:Nat→Prop} {f:Nat→Nat} (hm:Morph M.W N.W Dom f) (hl:N.W.length=M.W.length) (hr:M.roots.length=N.roots.length) (hc:∀ i,i<M.roots.length→Cor f Dom (M.roots.getD i 0) (N.roots.getD i 0)):liveM N=liveM M:=by
 obtain⟨e1,e2⟩:=reach_sim hm hl hr hc
 unfold liveM
 rw[e1,List.map_map]
 congr 1
 refine List.map_congr_left fun o ho=>?_
 obtain⟨d1,d2⟩:=e2 o ho
 show 1+(obW N.W (f o.a)).n=1+o.n
 rw[obW_n]
 have:o.n=szW M.W o.a:=by rw[d2];rfl
 rw[this]
 unfold szW
 rw[hm.size o.a d1]
section
variable {M:Mem}
end
def stL (lN lO:List Nat):List Int:=(lN++lO).map fun (a:Nat)=>(a:Int)
theorem stL_mem {lN lO:List Nat} {b:Nat}:inSt (stL lN lO) (b:Int)=true↔b∈lN++lO:=by
 rw[inSt_iff]
 unfold stL
 rw[List.mem_map]
 constructor
 ·rintro⟨c,hc,e⟩
  have e2:c=b:=by omega
  subst e2;exact hc
 ·exact fun h=>⟨b,h,rfl⟩
theorem inSt_sub {st st':List Int} (hs:∀ x∈st,x∈st') {a:Int} (h:inSt st a=true):inSt st' a=true:=by
 rw[inSt_iff] at h ⊢;exact hs _ h
theorem fldB_sub {st st':List Int} (hs:∀ x∈st,x∈st') {u:Int} (h:fldB st u=true):fldB st' u=true:=by
 unfold fldB at h ⊢
 split at h
 ·rename_i h0
  rw[if_pos h0]
  rw[Bool.or_eq_true] at h ⊢
  rcases h with h|h
  ·exact Or.inl h
  ·exact Or.inr (inSt_sub hs h)
 ·rename_i h0
  rw[if_neg h0];exact h
structure Good (M:Mem) (lN lO:List Nat):Prop where
 shp:Shp M
 n:Laid M.W M.base lN (M.base+M.top.toNat)
 o:Laid M.W (2*M.half).toNat lO ((2*M.half).toNat+M.oldTop.toNat)
 hd:∀ b∈lN++lO,okHd M (obW M.W b)=true
 fld:∀ b∈lN++lO,rawB (hKind (wat M.W b))=false→∀ j,j<szW M.W b→fldB (stL lN lO) (wat M.W (b+1+j))=true
 roots:∀ x∈M.roots,fldB (stL lN lO) x=true
 weak:∀ x∈M.weak,fldB (stL lN lO) x=true
 ids:idsB (stL lN lO) [] M.ids=true
 crd:∀ b∈lN++lO,rawB (hKind (wat M.W b))=false→∀ j,j<szW M.W b→crd M (obW M.W b) j=true
section
variable {M:Mem} {lN lO:List Nat}
theorem Good.partN (h:Good M lN lO):partN M=(lN.map (obW M.W),true):=h.n.part
theorem Good.partO (h:Good M lN lO):partO M=(lO.map (obW M.W),true):=h.o.part
theorem Good.all (h:Good M lN lO):objsAll M=(lN++lO).map (obW M.W):=by
 unfold objsAll;rw[h.partN,h.partO,List.map_append]
theorem Good.starts (h:Good M lN lO):startsM M=stL lN lO:=by
 unfold startsM stL;rw[h.all,List.map_map];rfl
theorem Good.goodB (h:Good M lN lO):goodB M=true:=by
 have hob:objsB M (okHd M)=true:=by
  have hall:(objsAll M).all (okHd M)=true:=by
   rw[List.all_eq_true,h.all]
   intro y hy
   obtain⟨b,hb,rfl⟩:=List.mem_map.1 hy
   exact h.hd b hb
  unfold objsAll at hall
  rw[List.all_append,Bool.and_eq_true] at hall
  unfold objsB
  rw[hall.1,hall.2,h.partN,h.partO];rfl
 have hro:fieldsB (startsM M) M.roots=true:=by unfold fieldsB;rw[List.all_eq_true,h.starts];exact h.roots
 have hwk:fieldsB (startsM M) M.weak=true:=by unfold fieldsB;rw[List.all_eq_true,h.starts];exact h.weak
 have hfl:(objsAll M).all (okFld M (startsM M))=true:=by
  rw[List.all_eq_true,h.all,h.starts]
  intro y hy
  obtain⟨b,hb,rfl⟩:=List.mem_map.1 hy
  unfold okFld
  cases hq:rawB (hKind (obW M.W b).w) with
  | true=>rfl
  | false =>
   rw[Bool.false_or]
   unfold fieldsB flds
   rw[List.all_eq_true]
   intro v hv
   obtain⟨k,hk,rfl⟩:=List.mem_map.1 hv
   exact h.fld b hb hq k (List.mem_range.1 hk)
 unfold Go.Proofs.YtelhoppfidibiaaGreatDoor.goodB
 rw[shapeB_of h.shp,hob,hro,hwk,hfl,h.starts,h.ids];rfl
theorem Good.chk (h:Good M lN lO):chk M=0:=by
 have hcd:cardsM M=true:=by
  unfold cardsM
  rw[List.all_eq_true,h.all]
  intro y hy
  obtain⟨b,hb,rfl⟩:=List.mem_map.1 hy
  unfold cardsO
  cases hq:rawB (hKind (obW M.W b).w) with
  | true=>rfl
  | false =>
   rw[Bool.false_or]
   unfold cardsK
   rw[List.all_eq_true]
   intro k hk
   exact h.crd b hb hq k (List.mem_range.1 hk)
 unfold Go.Proofs.YtelhoppfidibiaaGreatDoor.chk
 rw[h.goodB,hcd];rfl
theorem good_of (h:chk M=0):∃ lN lO,Good M lN lO:=by
 obtain⟨hg,hc⟩:=chk_zero h
 obtain⟨hs,hob,hro,hwk,hfo,hid⟩:=good_parts hg
 obtain⟨h1,h2⟩:=parts_true hob
 have l1:Laid M.W M.base ((Go.Proofs.YtelhoppfidibiaaGreatDoor.partN M).1.map (·.a)) (M.base+M.top.toNat):=laid_of_part h1 (by omega)
 have l2:Laid M.W (2*M.half).toNat ((Go.Proofs.YtelhoppfidibiaaGreatDoor.partO M).1.map (·.a)) ((2*M.half).toNat+M.oldTop.toNat):=laid_of_part h2 (by omega)
 obtain⟨lN,e1⟩:∃ l,l=(Go.Proofs.YtelhoppfidibiaaGreatDoor.partN M).1.map (·.a):=⟨_,rfl⟩
 obtain⟨lO,e2⟩:∃ l,l=(Go.Proofs.YtelhoppfidibiaaGreatDoor.partO M).1.map (·.a):=⟨_,rfl⟩
 rw[←e1] at l1
 rw[←e2] at l2
 have p1:Go.Proofs.YtelhoppfidibiaaGreatDoor.partN M=(lN.map (obW M.W),true):=l1.part
 have p2:Go.Proofs.YtelhoppfidibiaaGreatDoor.partO M=(lO.map (obW M.W),true):=l2.part
 have ea:objsAll M=(lN++lO).map (obW M.W):=by unfold objsAll;rw[p1,p2,List.map_append]
 have es:startsM M=stL lN lO:=by unfold startsM stL;rw[ea,List.map_map];rfl
 have hm:∀ b∈lN++lO,obW M.W b∈objsAll M:=fun b hb=>by rw[ea];exact List.mem_map_of_mem hb
 refine⟨lN,lO,hs,l1,l2,fun b hb=>?_,fun b hb hr j hj=>?_,fun x hx=>?_,fun x hx=>?_,?_,fun b hb hr j hj=>?_⟩
 ·have:=objsB_all (q:=okHd M) hob
  rw[hob] at this
  exact List.all_eq_true.1 this.symm _ (hm b hb)
 ·have:=List.all_eq_true.1 hfo _ (hm b hb)
  unfold okFld at this
  rw[show rawB (hKind (obW M.W b).w)=false from hr,Bool.false_or,es] at this
  exact List.all_eq_true.1 this _ (List.mem_map.2 ⟨j,List.mem_range.2 hj,rfl⟩)
 ·rw[←es];exact List.all_eq_true.1 hro x hx
 ·rw[←es];exact List.all_eq_true.1 hwk x hx
 ·rw[←es];exact hid
 ·have:=List.all_eq_true.1 hc _ (hm b hb)
  unfold cardsO at this
  rw[show rawB (hKind (obW M.W b).w)=false from hr,Bool.false_or] at this
  exact List.all_eq_true.1 this _ (List.mem_range.2 hj)
theorem Good.new_ (h:Good M lN lO) (M':Mem) (lN' lO':List Nat) (a:Nat) (fs:List Int) (kind:Int)
  (e1:M'.half=M.half) (e2:M'.cards=M.cards) (e3:M'.card=M.card) (e4:M'.roots=M.roots) (e5:M'.weak=M.weak) (e6:M'.ids=M.ids)
  (shp':Shp M') (hn:Laid M'.W M'.base lN' (M'.base+M'.top.toNat)) (ho:Laid M'.W (2*M'.half).toNat lO' ((2*M'.half).toNat+M'.oldTop.toNat))
  (hm:∀ b,b∈lN'++lO'↔b∈lN++lO∨b=a) (out:∀ b∈lN++lO,∀ i,i≤szW M.W b→wat M'.W (b+i)=wat M.W (b+i))
  (hdw:wat M'.W a=headW kind 0 0 fs.length) (fsw:∀ j,j<fs.length→wat M'.W (a+1+j)=fs.getD j 0)
  (hk:0≤kind∧kind≤255) (hnn:fs.length≤4096)
  (hf:rawB kind=false→∀ x∈fs,fldB (stL lN' lO') x=true∧(oldB M (a:Int)=true→youngB M x=false)):Good M' lN' lO':=by
 obtain⟨d1,d2,d3,d4,d5⟩:=headW_hd kind 0 0 fs.length hk (by omega) (by omega) ⟨by omega,by omega⟩
 have hsub:∀ x∈stL lN lO,x∈stL lN' lO':=fun x hx=>by
  obtain⟨b,hb,rfl⟩:=List.mem_map.1 hx
  exact List.mem_map_of_mem ((hm b).2 (Or.inl hb))
 have w0:∀ b∈lN++lO,wat M'.W b=wat M.W b:=fun b hb=>out b hb 0 (Nat.zero_le _)
 have s0:∀ b∈lN++lO,szW M'.W b=szW M.W b:=fun b hb=>by unfold szW;rw[w0 b hb]
 have sa:szW M'.W a=fs.length:=by unfold szW;rw[hdw,d5];omega
 have hfld:∀ b∈lN++lO,∀ j,j<szW M.W b→wat M'.W (b+1+j)=wat M.W (b+1+j):=fun b hb j hj=>by
  have:=out b hb (1+j) (by omega)
  rw[←Nat.add_assoc] at this;exact this
 have fsm:∀ j,j<fs.length→fs.getD j 0∈fs:=fun j hj=>by
  rw[List.getD_eq_getElem?_getD,List.getElem?_eq_getElem hj];exact List.getElem_mem hj
 have oB:∀ x,oldB M' x=oldB M x:=fun x=>by unfold oldB;rw[e1]
 have yB:∀ x,youngB M' x=youngB M x:=fun x=>by unfold youngB;rw[oB]
 have cB:∀ x,cardB M' x=cardB M x:=fun x=>by unfold cardB;rw[e1,e2,e3]
 refine⟨shp',hn,ho,fun b hb=>?_,fun b hb hr j hj=>?_,fun x hx=>?_,fun x hx=>?_,?_,fun b hb hr j hj=>?_⟩
 ·rcases (hm b).1 hb with hb|rfl
  ·have:=h.hd b hb
   unfold okHd obW at this ⊢
   simp only at this ⊢
   rw[w0 b hb,oB];exact this
  ·unfold okHd obW
   simp only
   rw[hdw,d3,d4];rfl
 ·rcases (hm b).1 hb with hb|rfl
  ·rw[w0 b hb] at hr
   rw[s0 b hb] at hj
   rw[hfld b hb j hj]
   exact fldB_sub hsub (h.fld b hb hr j hj)
  ·rw[hdw,d2] at hr
   rw[sa] at hj
   rw[fsw j hj]
   exact (hf hr _ (fsm j hj)).1
 ·rw[e4] at hx;exact fldB_sub hsub (h.roots x hx)
 ·rw[e5] at hx;exact fldB_sub hsub (h.weak x hx)
 ·rw[e6]
  have h0:=(idsB_iff _ _ _).1 h.ids
  rw[idsB_iff]
  exact⟨fun x hx=>⟨⟨(h0.1 x hx).1.1,(h0.1 x hx).1.2.1,inSt_sub hsub (h0.1 x hx).1.2.2.1,(h0.1 x hx).1.2.2.2⟩,fun y hy=>by simp at hy⟩,h0.2⟩
 ·unfold Go.Proofs.YtelhoppfidibiaaGreatDoor.crd
  rcases (hm b).1 hb with hb|rfl
  ·rw[w0 b hb] at hr
   rw[s0 b hb] at hj
   have:=h.crd b hb hr j hj
   unfold Go.Proofs.YtelhoppfidibiaaGreatDoor.crd at this
   rw[oB,yB,cB,show (obW M'.W b).a=b from rfl,hfld b hb j hj]
   exact this
  ·rw[hdw,d2] at hr
   rw[sa] at hj
   rw[oB,yB,show (obW M'.W b).a=b from rfl,fsw j hj]
   cases ho:oldB M (b:Int) with
   | false=>rfl
   | true=>rw[(hf hr _ (fsm j hj)).2 ho];rfl
end
def newW (W:List Int) (a:Nat) (kind:Int) (fs:List Int):List Int:=splice (W.set a (headW kind 0 0 fs.length)) (a+1) fs
theorem newW_len (W:List Int) (a:Nat) (kind:Int) (fs:List Int) (h:a+1+fs.length≤W.length):(newW W a kind fs).length=W.length:=by
 unfold newW;rw[length_splice _ _ _ (by simp;omega)];simp
theorem newW_out (W:List Int) (a:Nat) (kind:Int) (fs:List Int) (h:a+1+fs.length≤W.length) (i:Nat) (hi:i<a∨a+1+fs.length≤i):wat (newW W a kind fs) i=wat W i:=by
 unfold newW
 rw[wat_splice _ _ _ _ (by simp;omega),if_neg (by omega),wat_set _ _ _ _ (by omega)]
theorem newW_hd (W:List Int) (a:Nat) (kind:Int) (fs:List Int) (h:a+1+fs.length≤W.length):wat (newW W a kind fs) a=headW kind 0 0 fs.length:=by
 unfold newW
 rw[wat_splice _ _ _ _ (by simp;omega),if_neg (by omega),wat_set_same _ _ _ (by omega)]
theorem newW_fld (W:List Int) (a:Nat) (kind:Int) (fs:List Int) (h:a+1+fs.length≤W.length) (j:Nat) (hj:j<fs.length):wat (newW W a kind fs) (a+1+j)=fs.getD j 0:=by
 unfold newW
 rw[wat_splice _ _ _ _ (by simp;omega),if_pos (by omega)]
 congr 1;omega
def newNM (M:Mem) (kind:Int) (fs:List Int):Mem:={M with W:=newW M.W (M.base+M.top.toNat) kind fs,top:=M.top+1+fs.length}
def newOM (M:Mem) (kind:Int) (fs:List Int):Mem:={M with W:=newW M.W ((2*M.half).toNat+M.oldTop.toNat) kind fs,oldTop:=M.oldTop+1+fs.length}
theorem laid_one {W:List Int} {a n:Nat} {kind:Int} (hk:0≤kind∧kind≤255) (hn:n≤4096) (h:wat W a=headW kind 0 0 n):Laid W a [a] (a+1+n):=by
 obtain⟨d1,d2,d3,d4,d5⟩:=headW_hd kind 0 0 n hk (by omega) (by omega) ⟨by omega,by omega⟩
 refine⟨rfl,by rw[h];exact d1,?_⟩
 show a+1+szW W a=_
 unfold szW
 rw[h,d5];omega
section
variable {M:Mem} {lN lO:List Nat}
theorem Good.newN (h:Good M lN lO) (kind:Int) (fs:List Int) (hk:0≤kind∧kind≤255) (hn:fs.length≤4096) (hr:M.top+1+fs.length≤M.half)
  (hf:rawB kind=false→∀ x∈fs,fldB (stL (lN++[M.base+M.top.toNat]) lO) x=true):Good (newNM M kind fs) (lN++[M.base+M.top.toNat]) lO:=by
 have hs:=h.shp
 have h1:=hs.h1;have h2:=hs.t2;have h5:=hs.base;have h7:=hs.t1;have h8:=hs.w;have h9:=hs.p2;have h10:=hs.p1;have h11:=hs.o1
 have hw:M.base+M.top.toNat+1+fs.length≤M.W.length:=by omega
 have hto:(M.top+1+fs.length).toNat=M.top.toNat+1+fs.length:=by omega
 have rn:=fun b hb=>h.n.mem b hb
 have ro:=fun b hb=>h.o.mem b hb
 have out:∀ b∈lN++lO,∀ i,i≤szW M.W b→wat (newNM M kind fs).W (b+i)=wat M.W (b+i):=fun b hb i hi=>by
  refine newW_out _ _ _ _ hw _ ?_
  rcases List.mem_append.1 hb with hb|hb
  ·have:=(rn b hb).2.1;omega
  ·have:=(ro b hb).1;omega
 have hd':=newW_hd M.W (M.base+M.top.toNat) kind fs hw
 refine h.new_ (newNM M kind fs) (lN++[M.base+M.top.toNat]) lO (M.base+M.top.toNat) fs kind rfl rfl rfl rfl rfl rfl ⟨hs.h1,hs.h2,hs.o1,hs.o2,hs.c1,hs.c2,?_,hs.u1,hs.u2,?_,hr,hs.p1,hs.p2,hs.cl⟩ ?_ ?_ ?_ out hd' (fun j hj=>newW_fld _ _ _ _ hw j hj) hk hn ?_
 ·show (((newW M.W (M.base+M.top.toNat) kind fs).length:Nat):Int)=_
  rw[newW_len _ _ _ _ hw];exact hs.w
 ·show 0≤M.top+1+fs.length;omega
 ·show Laid (newNM M kind fs).W M.base _ (M.base+(M.top+1+fs.length).toNat)
  rw[hto]
  refine Laid.app (m:=M.base+M.top.toNat) (h.n.congr fun b hb=>out b (List.mem_append_left _ hb) 0 (Nat.zero_le _)) ?_
  have:=laid_one hk hn hd'
  rw[show M.base+(M.top.toNat+1+fs.length)=M.base+M.top.toNat+1+fs.length by omega]
  exact this
 ·exact h.o.congr fun b hb=>out b (List.mem_append_right _ hb) 0 (Nat.zero_le _)
 ·intro b;simp only[List.mem_append,List.mem_singleton];constructor
  ·rintro ((h|h)|h)
   ·exact Or.inl (Or.inl h)
   ·exact Or.inr h
   ·exact Or.inl (Or.inr h)
  ·rintro ((h|h)|h)
   ·exact Or.inl (Or.inl h)
   ·exact Or.inr h
   ·exact Or.inl (Or.inr h)
 ·intro hq x hx
  refine⟨hf hq x hx,fun ho=>?_⟩
  have:=of_decide_eq_true ho
  omega
theorem Good.newO (h:Good M lN lO) (kind:Int) (fs:List Int) (hk:0≤kind∧kind≤255) (hn:fs.length≤4096) (hr:M.oldTop+1+fs.length≤M.old)
  (hf:rawB kind=false→∀ x∈fs,fldB (stL lN (lO++[(2*M.half).toNat+M.oldTop.toNat])) x=true∧youngB M x=false):Good (newOM M kind fs) lN (lO++[(2*M.half).toNat+M.oldTop.toNat]):=by
 have hs:=h.shp
 have h1:=hs.h1;have h2:=hs.t2;have h5:=hs.base;have h7:=hs.t1;have h8:=hs.w;have h9:=hs.p2;have h10:=hs.p1;have h11:=hs.o1
 have hw:(2*M.half).toNat+M.oldTop.toNat+1+fs.length≤M.W.length:=by omega
 have hto:(M.oldTop+1+fs.length).toNat=M.oldTop.toNat+1+fs.length:=by omega
 have rn:=fun b hb=>h.n.mem b hb
 have ro:=fun b hb=>h.o.mem b hb
 have out:∀ b∈lN++lO,∀ i,i≤szW M.W b→wat (newOM M kind fs).W (b+i)=wat M.W (b+i):=fun b hb i hi=>by
  refine newW_out _ _ _ _ hw _ ?_
  rcases List.mem_append.1 hb with hb|hb
  ·have:=(rn b hb).2.1;omega
  ·have:=(ro b hb).2.1;omega
 have hd':=newW_hd M.W ((2*M.half).toNat+M.oldTop.toNat) kind fs hw
 refine h.new_ (newOM M kind fs) lN (lO++[(2*M.half).toNat+M.oldTop.toNat]) ((2*M.half).toNat+M.oldTop.toNat) fs kind rfl rfl rfl rfl rfl rfl ⟨hs.h1,hs.h2,hs.o1,hs.o2,hs.c1,hs.c2,?_,hs.u1,hs.u2,hs.t1,hs.t2,?_,hr,hs.cl⟩ ?_ ?_ ?_ out hd' (fun j hj=>newW_fld _ _ _ _ hw j hj) hk hn ?_
 ·show (((newW M.W ((2*M.half).toNat+M.oldTop.toNat) kind fs).length:Nat):Int)=_
  rw[newW_len _ _ _ _ hw];exact hs.w
 ·show 0≤M.oldTop+1+fs.length;omega
 ·exact h.n.congr fun b hb=>out b (List.mem_append_left _ hb) 0 (Nat.zero_le _)
 ·show Laid (newOM M kind fs).W (2*M.half).toNat _ ((2*M.half).toNat+(M.oldTop+1+fs.length).toNat)
  rw[hto]
  refine Laid.app (m:=(2*M.half).toNat+M.oldTop.toNat) (h.o.congr fun b hb=>out b (List.mem_append_right _ hb) 0 (Nat.zero_le _)) ?_
  have:=laid_one hk hn hd'
  rw[show (2*M.half).toNat+(M.oldTop.toNat+1+fs.length)=(2*M.half).toNat+M.oldTop.toNat+1+fs.length by omega]
  exact this
 ·intro b;simp only[List.mem_append,List.mem_singleton,or_assoc]
 ·intro hq x hx
  exact⟨(hf hq x hx).1,fun _=>(hf hq x hx).2⟩
theorem Good.apart (h:Good M lN lO) {b c:Nat} (hb:b∈lN++lO) (hc:c∈lN++lO) (hn:b≠c):b+1+szW M.W b≤c∨c+1+szW M.W c≤b:=by
 have hs:=h.shp
 have h1:=hs.h1;have h2:=hs.t2;have h5:=hs.base;have h7:=hs.t1
 rcases List.mem_append.1 hb with hb|hb
 ·rcases List.mem_append.1 hc with hc|hc
  ·exact h.n.apart hb hc hn
  ·have a1:=(h.n.mem b hb).2.1;have a2:=(h.o.mem c hc).1;omega
 ·rcases List.mem_append.1 hc with hc|hc
  ·have a1:=(h.o.mem b hb).1;have a2:=(h.n.mem c hc).2.1;omega
  ·exact h.o.apart hb hc hn
theorem Good.inW (h:Good M lN lO) {b:Nat} (hb:b∈lN++lO):b+1+szW M.W b≤M.W.length:=by
 have hs:=h.shp
 have h1:=hs.h1;have h2:=hs.t2;have h5:=hs.base;have h7:=hs.t1;have h8:=hs.w;have h9:=hs.p2;have h10:=hs.p1;have h11:=hs.o1
 rcases List.mem_append.1 hb with hb|hb
 ·have a1:=(h.n.mem b hb).2.1;omega
 ·have a1:=(h.o.mem b hb).2.1;omega
theorem Good.raw_ (h:Good M lN lO) {b:Nat} (hb:b∈lN++lO) (hr:rawB (hKind (wat M.W b))=true) (V:List Int) (hl:V.length=M.W.length) (hV:∀ i,¬(b+1≤i∧i<b+1+szW M.W b)→wat V i=wat M.W i):Good {M with W:=V} lN lO:=by
 have w0:∀ c∈lN++lO,wat V c=wat M.W c:=fun c hc=>hV c fun q=>by
  by_cases e:c=b
  ·omega
  ·have:=h.apart hb hc (Ne.symm e);omega
 have s0:∀ c∈lN++lO,szW V c=szW M.W c:=fun c hc=>by unfold szW;rw[w0 c hc]
 have f0:∀ c∈lN++lO,rawB (hKind (wat M.W c))=false→∀ j,j<szW M.W c→wat V (c+1+j)=wat M.W (c+1+j):=fun c hc hq j hj=>hV _ fun q=>by
  by_cases e:c=b
  ·subst e;rw[hr] at hq;cases hq
  ·have:=h.apart hb hc (Ne.symm e);omega
 refine⟨⟨h.shp.h1,h.shp.h2,h.shp.o1,h.shp.o2,h.shp.c1,h.shp.c2,by show ((V.length:Nat):Int)=_;rw[hl];exact h.shp.w,h.shp.u1,h.shp.u2,h.shp.t1,h.shp.t2,h.shp.p1,h.shp.p2,h.shp.cl⟩,
  h.n.congr fun c hc=>w0 c (List.mem_append_left _ hc),h.o.congr fun c hc=>w0 c (List.mem_append_right _ hc),fun c hc=>?_,fun c hc hq j hj=>?_,h.roots,h.weak,h.ids,fun c hc hq j hj=>?_⟩
 ·have:=h.hd c hc
  unfold okHd obW at this ⊢
  simp only at this ⊢
  rw[w0 c hc];exact this
 ·simp only at hq hj ⊢
  rw[w0 c hc] at hq
  rw[s0 c hc] at hj
  rw[f0 c hc hq j hj];exact h.fld c hc hq j hj
 ·simp only at hq hj
  rw[w0 c hc] at hq
  rw[s0 c hc] at hj
  have:=h.crd c hc hq j hj
  unfold Go.Proofs.YtelhoppfidibiaaGreatDoor.crd at this ⊢
  simp only[show ∀ V c,(obW V c).a=c from fun _ _=>rfl] at this ⊢
  rw[f0 c hc hq j hj];exact this
theorem Good.setRoot (h:Good M lN lO) (r:Nat) (x:Int) (hx:fldB (stL lN lO) x=true):Good {M with roots:=M.roots.set r x} lN lO :=
 ⟨⟨h.shp.h1,h.shp.h2,h.shp.o1,h.shp.o2,h.shp.c1,h.shp.c2,h.shp.w,h.shp.u1,h.shp.u2,h.shp.t1,h.shp.t2,h.shp.p1,h.shp.p2,h.shp.cl⟩,h.n,h.o,h.hd,h.fld,fun y hy=>by
  rcases List.mem_or_eq_of_mem_set hy with q|q
  ·exact h.roots y q
  ·rw[q];exact hx,h.weak,h.ids,h.crd⟩
theorem Good.addWeak (h:Good M lN lO) (x:Int) (hx:fldB (stL lN lO) x=true):Good {M with weak:=M.weak++[x]} lN lO :=
 ⟨⟨h.shp.h1,h.shp.h2,h.shp.o1,h.shp.o2,h.shp.c1,h.shp.c2,h.shp.w,h.shp.u1,h.shp.u2,h.shp.t1,h.shp.t2,h.shp.p1,h.shp.p2,h.shp.cl⟩,h.n,h.o,h.hd,h.fld,h.roots,fun y hy=>by
  rcases List.mem_append.1 hy with q|q
  ·exact h.weak y q
  ·rw[List.mem_singleton.1 q];exact hx,h.ids,h.crd⟩
theorem Good.addId (h:Good M lN lO) (x:Int) (s:Int) (h0:kindW x=0) (h1:x≠0) (hx:fldB (stL lN lO) x=true) (hs:1≤s) (hn:∀ y∈M.ids,y.1≠x∧y.2≠s):Good {M with ids:=M.ids++[(x,s)]} lN lO :=
 ⟨⟨h.shp.h1,h.shp.h2,h.shp.o1,h.shp.o2,h.shp.c1,h.shp.c2,h.shp.w,h.shp.u1,h.shp.u2,h.shp.t1,h.shp.t2,h.shp.p1,h.shp.p2,h.shp.cl⟩,h.n,h.o,h.hd,h.fld,h.roots,h.weak,by
  obtain⟨g1,g2⟩:=(idsB_iff _ _ _).1 h.ids
  refine (idsB_iff _ _ _).2 ⟨fun y hy=>?_,?_⟩
  ·refine⟨?_,fun z hz=>by simp at hz⟩
   rcases List.mem_append.1 hy with q|q
   ·exact (g1 y q).1
   ·rw[List.mem_singleton.1 q]
    refine⟨h0,h1,?_,hs⟩
    unfold fldB at hx
    rw[if_pos h0,Bool.or_eq_true] at hx
    rcases hx with hx|hx
    ·exact absurd (by simpa using hx) h1
    ·exact hx
  ·rw[List.pairwise_append]
   exact⟨g2,List.pairwise_singleton _ _,fun a ha b hb=>by rw[List.mem_singleton.1 hb];exact hn a ha⟩,h.crd⟩
theorem good_fresh (half old card:Int) (h:1≤half∧half≤65536) (h2:1≤old∧old≤65536) (h3:1≤card∧card≤1024) (roots:List Int) (hr:∀ x∈roots,fldB [] x=true) :
  Good ⟨half,old,card,List.replicate (2*half+old).toNat 0,0,0,0,roots,[],[],List.replicate ((old+card-1)/card).toNat false⟩ [] []:=by
 have q0:0≤(old+card-1)/card:=Int.ediv_nonneg (by omega) (by omega)
 refine⟨⟨h.1,h.2,h2.1,h2.2,h3.1,h3.2,?_,by simp,by simp,by simp,?_,by simp,?_,?_⟩,?_,?_,by simp,by simp,?_,by simp,rfl,by simp⟩
 ·simp only[List.length_replicate];omega
 ·show (0:Int)≤half;omega
 ·show (0:Int)≤old;omega
 ·simp only[List.length_replicate];omega
 ·show _=_;simp[Mem.base]
 ·show _=_;simp
 ·exact hr
end
def HL (hb b:Nat) (S:Sls) (k:Nat):Prop:=k=hb∨OwnA b S k
structure OHeap (w:World) (B hb b:Nat) (M:Mem) (S:Sls) (ten nx:Int):Prop where
 mem:OMem w B b 140 M S
 hB:B≤hb
 blk:∃ cur t,w.heap[hb]?=some (.cells cur t (0,0))
 ptr:w.cell? ⟨hb,0,none⟩=some (.pointer (some ⟨b,0,none⟩))
 tn:w.cell? ⟨hb,1,none⟩=some (.int .i64 ten)
 nxt:w.cell? ⟨hb,2,none⟩=some (.int .i64 nx)
 ne:¬OwnA b S hb
structure HStep (hb b:Nat) (w:World) (S:Sls) (w':World) (S':Sls):Prop where
 keep:Keep (HL hb b S) w w'
 own:∀ k,HL hb b S' k→HL hb b S k∨w.heap.size≤k
theorem HStep.trans_ {hb b:Nat} {w w1 w2:World} {S S1 S2:Sls} (h:HStep hb b w S w1 S1) (k:HStep hb b w1 S1 w2 S2):HStep hb b w S w2 S2 :=
 ⟨h.keep.then_ k.keep (fun i hi hl=>by rcases h.own i hl with q|q;exact q;omega),fun i hi=>by
  rcases k.own i hi with q|q
  ·exact h.own i q
  ·exact Or.inr (by have:=h.keep.size;omega)⟩
theorem HStep.of_ext {hb b:Nat} {w w':World} {S:Sls} (h:Ext w w'):HStep hb b w S w' S:=⟨Keep.of_ext h,fun _ q=>Or.inl q⟩
section
variable {w w':World} {B hb b:Nat} {M M':Mem} {S S':Sls} {ten nx:Int}
theorem OHeap.lt (h:OHeap w B hb b M S ten nx):hb<w.heap.size:=cell_lt h.ptr
theorem OHeap.hbs (h:OHeap w B hb b M S ten nx):B≤w.heap.size:=by have:=h.hB;have:=h.lt;omega
theorem OHeap.own (h:OHeap w B hb b M S ten nx) {k:Nat} (hk:HL hb b S k):B≤k∧k<w.heap.size:=by
 rcases hk with rfl|hk
 ·exact⟨h.hB,h.lt⟩
 ·exact OMem.own_size h.mem hk
theorem OHeap.frozen (h:OHeap w B hb b M S ten nx) (j:Nat):w.frozen? ⟨hb,j,none⟩=false:=by
 obtain⟨cur,t,hc⟩:=h.blk
 simp[World.frozen?,hc]
theorem OHeap.step (h:OHeap w B hb b M S ten nx) (hO:OMem w' B b 140 M' S') (hk:Keep (OwnA b S) w w') (hs:∀ k,OwnA b S' k→OwnA b S k∨w.heap.size≤k) :
  OHeap w' B hb b M' S' ten nx∧HStep hb b w S w' S':=by
 have hlt:=h.lt
 refine⟨⟨hO,h.hB,?_,hk.cell (p:=⟨hb,0,none⟩) h.ne h.ptr,hk.cell (p:=⟨hb,1,none⟩) h.ne h.tn,hk.cell (p:=⟨hb,2,none⟩) h.ne h.nxt,fun e=>?_⟩,⟨⟨hk.os,hk.tape,hk.output,hk.size,fun k hlk hn=>hk.block k hlk (fun e=>hn (Or.inr e))⟩,fun k hkk=>?_⟩⟩
 ·rw[hk.block hb hlt h.ne];exact h.blk
 ·rcases hs hb e with q|q
  ·exact h.ne q
  ·omega
 ·rcases hkk with q|q
  ·exact Or.inl (Or.inl q)
  ·rcases hs k q with r|r
   ·exact Or.inl (Or.inr r)
   ·exact Or.inr r
theorem OHeap.ext (h:OHeap w B hb b M S ten nx) (hx:Ext w w'):OHeap w' B hb b M S ten nx :=
 (h.step (OM.ext h.mem hx) (Keep.of_ext hx) fun _ q=>Or.inl q).1
end
def HPost (w:World) (B hb b:Nat) (S:Sls) (ten:Int) (M':Mem) (nx':Int) (v:Value) (e:Ending) (w':World):Prop :=
 e=.returned v∧∃ S',OHeap w' B hb b M' S' ten nx'∧HStep hb b w S w' S'
def majorC (M:Mem):Int:=if (liveM M:Int)≤M.old then 0 else 6
def majorH (M:Mem):Mem:=if (liveM M:Int)≤M.old then majM M else M
def minorC (M:Mem):Int:=if M.top≤M.old-M.oldTop then 0 else majorC M
def minorH (M:Mem) (ten:Int):Mem:=if M.top≤M.old-M.oldTop then collectC M ten else majorH M
structure HInv (M:Mem) (nx:Int):Prop where
 ok:M.Ok
 chk:chk M=0
 nx1:1≤nx
 ids:∀ x∈M.ids,x.2<nx
structure SameH (M N:Mem):Prop where
 half:N.half=M.half
 old:N.old=M.old
 card:N.card=M.card
 roots:N.roots.length=M.roots.length
 weak:N.weak.length=M.weak.length
 ids:N.ids.length≤M.ids.length
theorem SameH.refl (M:Mem):SameH M M:=⟨rfl,rfl,rfl,rfl,rfl,Nat.le_refl _⟩
theorem SameH.trans {M N K:Mem} (h:SameH M N) (k:SameH N K):SameH M K :=
 ⟨k.half.trans h.half,k.old.trans h.old,k.card.trans h.card,k.roots.trans h.roots,k.weak.trans h.weak,Nat.le_trans k.ids h.ids⟩
section
variable {M:Mem} {ten nx:Int}
theorem HInv.full (h:HInv M nx) (hl:(liveM M:Int)≤M.old):Full M:=⟨h.ok,h.chk,hl⟩
theorem collectC_inv (hr:Ready M ten) (h:HInv M nx):HInv (collectC M ten) nx∧SameH M (collectC M ten):=by
 have hf:=collect_fin hr
 obtain⟨D,hv⟩:=hf.inv
 rw[collectC_fin]
 refine⟨⟨hf.ok hr,hf.chk hr,h.nx1,fun x hx=>?_⟩,⟨hv.like.half,hv.like.old,hv.like.card,hf.rootsL,?_,?_⟩⟩
 ·obtain⟨u,hu,e⟩:=List.mem_filterMap.1 (show x∈idsC (col4 M ten) from hx)
  split at e
  ·injection e with e
   subst e
   rw[hv.like.ids] at hu
   exact h.ids u hu
  ·cases e
 ·show (weakC (col4 M ten)).length=_
  unfold weakC
  rw[List.length_map,hv.like.weak]
 ·show (idsC (col4 M ten)).length≤_
  unfold idsC
  rw[hv.like.ids]
  exact List.length_filterMap_le _ _
theorem majM_inv (hl:(liveM M:Int)≤M.old) (h:HInv M nx):HInv (majM M) nx∧SameH M (majM M):=by
 have hf:=h.full hl
 refine⟨⟨hf.okN,hf.chkN,h.nx1,fun x hx=>?_⟩,⟨rfl,rfl,rfl,by unfold majM;simp,by unfold majM;simp,by unfold majM;exact List.length_filterMap_le _ _⟩⟩
 obtain⟨u,hu,e⟩:=List.mem_filterMap.1 (show x∈M.ids.filterMap _ from hx)
 split at e
 ·injection e with e
  subst e
  exact h.ids u hu
 ·cases e
theorem majorH_inv (h:HInv M nx):HInv (majorH M) nx∧SameH M (majorH M):=by
 unfold majorH
 split
 ·exact majM_inv (by assumption) h
 ·exact⟨h,SameH.refl M⟩
theorem minorH_inv (ht:0≤ten∧ten≤15) (h:HInv M nx):HInv (minorH M ten) nx∧SameH M (minorH M ten):=by
 unfold minorH
 split
 ·exact collectC_inv ⟨h.ok,h.chk,ht,by assumption⟩ h
 ·exact majorH_inv h
theorem newW_u64 {W:List Int} (hW:∀ x∈W,0≤x∧x≤18446744073709551615) {a:Nat} {kind:Int} {fs:List Int} (hk:0≤kind∧kind≤255) (hn:fs.length≤4096) (hf:∀ x∈fs,0≤x∧x≤18446744073709551615):∀ x∈newW W a kind fs,0≤x∧x≤18446744073709551615:=fun x hx=>by
 rcases splice_memI hx with q|q
 ·rcases List.mem_or_eq_of_mem_set q with q|q
  ·exact hW x q
  ·subst q;exact headW_in kind 0 0 (fs.length:Int) hk (by omega) (by omega) ⟨by omega,by omega⟩
 ·exact hf x q
theorem newNM_inv (h:HInv M nx) (kind:Int) (fs:List Int) (hk:0≤kind∧kind≤255) (hn:fs.length≤4096) (hr:M.top+1+fs.length≤M.half) (hu:∀ x∈fs,0≤x∧x≤18446744073709551615)
  (hf:rawB kind=false→∀ x∈fs,fldB [] x=true):HInv (newNM M kind fs) nx∧SameH M (newNM M kind fs)∧∃ lN lO,Good (newNM M kind fs) lN lO∧M.base+M.top.toNat∈lN++lO:=by
 obtain⟨lN,lO,hg⟩:=good_of h.chk
 have hG:=hg.newN kind fs hk hn hr fun hq x hx=>fldB_sub (by simp) (hf hq x hx)
 have hs:=hg.shp
 have h1:=hs.h1;have h2:=hs.t2;have h5:=hs.base;have h7:=hs.t1;have h8:=hs.w;have h9:=hs.p2;have h10:=hs.p1;have h11:=hs.o1;have h12:=hs.h2
 have hw:M.base+M.top.toNat+1+fs.length≤M.W.length:=by omega
 refine⟨⟨⟨h.ok.half,h.ok.old,h.ok.card,h.ok.used,?_,h.ok.oldTop,newW_u64 h.ok.W hk hn hu,h.ok.roots,h.ok.weak,h.ok.ids,?_,h.ok.lenR,h.ok.lenK,h.ok.lenI,h.ok.lenC⟩,hG.chk,h.nx1,h.ids⟩,⟨rfl,rfl,rfl,rfl,rfl,Nat.le_refl _⟩,_,_,hG,by simp⟩
 ·show _≤M.top+1+fs.length∧M.top+1+fs.length≤_;omega
 ·show (newW M.W (M.base+M.top.toNat) kind fs).length≤_
  rw[newW_len _ _ _ _ hw];exact h.ok.lenW
theorem newOM_inv (h:HInv M nx) (kind:Int) (fs:List Int) (hk:0≤kind∧kind≤255) (hn:fs.length≤4096) (hr:M.oldTop+1+fs.length≤M.old) (hu:∀ x∈fs,0≤x∧x≤18446744073709551615)
  (hf:rawB kind=false→∀ x∈fs,fldB [] x=true∧kindW x≠0):HInv (newOM M kind fs) nx∧SameH M (newOM M kind fs)∧∃ lN lO,Good (newOM M kind fs) lN lO∧(2*M.half).toNat+M.oldTop.toNat∈lN++lO:=by
 obtain⟨lN,lO,hg⟩:=good_of h.chk
 have hG:=hg.newO kind fs hk hn hr fun hq x hx=>⟨fldB_sub (by simp) (hf hq x hx).1,by
  unfold youngB
  have:=(hf hq x hx).2
  rw[show (kindW x==0)=false by simpa using this];rfl⟩
 have hs:=hg.shp
 have h1:=hs.h1;have h2:=hs.t2;have h5:=hs.base;have h7:=hs.t1;have h8:=hs.w;have h9:=hs.p2;have h10:=hs.p1;have h11:=hs.o1;have h12:=hs.o2
 have hw:(2*M.half).toNat+M.oldTop.toNat+1+fs.length≤M.W.length:=by omega
 refine⟨⟨⟨h.ok.half,h.ok.old,h.ok.card,h.ok.used,h.ok.top,?_,newW_u64 h.ok.W hk hn hu,h.ok.roots,h.ok.weak,h.ok.ids,?_,h.ok.lenR,h.ok.lenK,h.ok.lenI,h.ok.lenC⟩,hG.chk,h.nx1,h.ids⟩,⟨rfl,rfl,rfl,rfl,rfl,Nat.le_refl _⟩,_,_,hG,by simp⟩
 ·show _≤M.oldTop+1+fs.length∧M.oldTop+1+fs.length≤_;omega
 ·show (newW M.W ((2*M.half).toNat+M.oldTop.toNat) kind fs).length≤_
  rw[newW_len _ _ _ _ hw];exact h.ok.lenW
theorem rootM_inv (h:HInv M nx) {lN lO:List Nat} (hg:Good M lN lO) (r:Nat) (x:Int) (hu:0≤x∧x≤18446744073709551615) (hx:fldB (stL lN lO) x=true):HInv {M with roots:=M.roots.set r x} nx∧SameH M {M with roots:=M.roots.set r x} :=
 ⟨⟨⟨h.ok.half,h.ok.old,h.ok.card,h.ok.used,h.ok.top,h.ok.oldTop,h.ok.W,fun y hy=>by
  rcases List.mem_or_eq_of_mem_set hy with q|q
  ·exact h.ok.roots y q
  ·rw[q];exact hu,h.ok.weak,h.ok.ids,h.ok.lenW,by simpa using h.ok.lenR,h.ok.lenK,h.ok.lenI,h.ok.lenC⟩,(hg.setRoot r x hx).chk,h.nx1,h.ids⟩,⟨rfl,rfl,rfl,by simp,rfl,Nat.le_refl _⟩⟩
theorem rawM_inv (h:HInv M nx) {lN lO:List Nat} (hg:Good M lN lO) {b:Nat} (hb:b∈lN++lO) (hr:rawB (hKind (wat M.W b))=true) (V:List Int) (hl:V.length=M.W.length) (hV:∀ i,¬(b+1≤i∧i<b+1+szW M.W b)→wat V i=wat M.W i)
  (hu:∀ x∈V,0≤x∧x≤18446744073709551615):HInv {M with W:=V} nx∧SameH M {M with W:=V}∧Good {M with W:=V} lN lO :=
 ⟨⟨⟨h.ok.half,h.ok.old,h.ok.card,h.ok.used,h.ok.top,h.ok.oldTop,hu,h.ok.roots,h.ok.weak,h.ok.ids,by show V.length≤_;rw[hl];exact h.ok.lenW,h.ok.lenR,h.ok.lenK,h.ok.lenI,h.ok.lenC⟩,(hg.raw_ hb hr V hl hV).chk,h.nx1,h.ids⟩,⟨rfl,rfl,rfl,rfl,rfl,Nat.le_refl _⟩,hg.raw_ hb hr V hl hV⟩
theorem weakM_inv (h:HInv M nx) {lN lO:List Nat} (hg:Good M lN lO) (x:Int) (hu:0≤x∧x≤18446744073709551615) (hx:fldB (stL lN lO) x=true) (hl:M.weak.length≤1000000):HInv {M with weak:=M.weak++[x]} nx :=
 ⟨⟨h.ok.half,h.ok.old,h.ok.card,h.ok.used,h.ok.top,h.ok.oldTop,h.ok.W,h.ok.roots,fun y hy=>by
  rcases List.mem_append.1 hy with q|q
  ·exact h.ok.weak y q
  ·rw[List.mem_singleton.1 q];exact hu,h.ok.ids,h.ok.lenW,h.ok.lenR,by simp;omega,h.ok.lenI,h.ok.lenC⟩,(hg.addWeak x hx).chk,h.nx1,h.ids⟩
theorem idM_inv (h:HInv M nx) {lN lO:List Nat} (hg:Good M lN lO) (x:Int) (hu:0≤x∧x≤18446744073709551615) (h0:kindW x=0) (h1:x≠0) (hx:fldB (stL lN lO) x=true) (hl:M.ids.length≤1000000) (hn:nx≤1000000) (hf:∀ y∈M.ids,y.1≠x) :
  HInv {M with ids:=M.ids++[(x,nx)]} (nx+1):=by
 have:=h.nx1
 refine⟨⟨h.ok.half,h.ok.old,h.ok.card,h.ok.used,h.ok.top,h.ok.oldTop,h.ok.W,h.ok.roots,h.ok.weak,fun y hy=>?_,h.ok.lenW,h.ok.lenR,h.ok.lenK,by simp;omega,h.ok.lenC⟩,(hg.addId x nx h0 h1 hx h.nx1 fun y hy=>⟨hf y hy,fun e=>by have:=h.ids y hy;omega⟩).chk,by omega,fun y hy=>?_⟩
 ·rcases List.mem_append.1 hy with q|q
  ·exact h.ok.ids y q
  ·rw[List.mem_singleton.1 q];exact⟨hu,by simp only;omega⟩
 ·rcases List.mem_append.1 hy with q|q
  ·have:=h.ids y q;omega
  ·rw[List.mem_singleton.1 q];simp only;omega
end
end Go.Proofs.YtelhoppfidibiaaGreatDoor
