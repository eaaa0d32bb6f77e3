/- The major collector slides objects: plainly. -/
import Derived.Test.YtelhoppfidibiaaGreatDoorJTa22
import Derived.Test.YtelhoppfidibiaaGreatDoorJTa16
import Derived.Test.YtelhoppfidibiaaGreatDoorJTa23
import Derived.Test.YtelhoppfidibiaaGreatDoorJTa10
set_option linter.unusedSimpArgs false
set_option linter.unusedVariables false
set_option maxHeartbeats 8000000
set_option maxRecDepth 100000
namespace Go.Proofs.YtelhoppfidibiaaGreatDoor
open Go.RowKit
def ageless (w:Int):Int:=headW (hKind w) 0 (hMark w) (hSize w)
theorem ageless_hd {w:Int} (h0:0≤w) (h:isHd w=true):isHd (ageless w)=true∧hKind (ageless w)=hKind w∧hAge (ageless w)=0∧hMark (ageless w)=hMark w∧hSize (ageless w)=hSize w:=by
 obtain⟨k0,k1,a0,a1,m0,m1,z0⟩:=hd_in w h0
 have z1:=((isHd_iff w).1 h).2.2
 exact headW_hd _ _ _ _ ⟨k0,k1⟩ ⟨by omega,by omega⟩ ⟨m0,m1⟩ ⟨z0,z1⟩
def fwdW (fw:Int→Int) (W:List Int) (i:Nat):Nat→List Int
 | 0=>W
 | n+1=>fwdW fw (W.set i (fw (wat W i))) (i+1) n
theorem fwdW_len (fw:Int→Int):∀ (n:Nat) (W:List Int) (i:Nat),(fwdW fw W i n).length=W.length
 | 0,_,_=>rfl
 | n+1,W,i=>by rw[fwdW,fwdW_len fw n,List.length_set]
theorem wat_setI (W:List Int) (i j:Nat) (v:Int) (hi:i<W.length):wat (W.set i v) j=if j=i then v else wat W j:=by
 unfold wat
 by_cases e:j=i
 ·subst e;rw[if_pos rfl,getD_set_same _ _ _ hi]
 ·rw[if_neg e,getD_set_ne _ _ _ _ (fun q=>e q.symm)]
theorem wat_fwd (fw:Int→Int):∀ (n:Nat) (W:List Int) (i j:Nat),i+n≤W.length→wat (fwdW fw W i n) j=if i≤j∧j<i+n then fw (wat W j) else wat W j
 | 0,W,i,j,h=>by rw[if_neg (by omega)];rfl
 | n+1,W,i,j,h=>by
  rw[fwdW,wat_fwd fw n _ (i+1) j (by rw[List.length_set];omega)]
  by_cases e:j=i
  ·subst e
   rw[if_neg (by omega),if_pos ⟨Nat.le_refl _,by omega⟩,wat_setI _ _ _ _ (by omega),if_pos rfl]
  ·rw[wat_setI _ _ _ _ (by omega),if_neg e]
   by_cases q:i+1≤j∧j<i+1+n
   ·rw[if_pos q,if_pos ⟨by omega,by omega⟩]
   ·rw[if_neg q,if_neg (by omega)]
theorem fwdW_snoc (fw:Int→Int):∀ (n:Nat) (W:List Int) (i:Nat),fwdW fw W i (n+1)=(fwdW fw W i n).set (i+n) (fw (wat (fwdW fw W i n) (i+n)))
 | 0,W,i=>rfl
 | n+1,W,i=>by
  rw[fwdW,fwdW_snoc fw n _ (i+1),fwdW,show i+1+n=i+(n+1) by omega]
def srcW (hb:Nat) (Y W:List Int) (a:Nat):List Int:=if hb≤a then W else Y
def slide0 (hb:Nat) (Y W:List Int) (a t:Nat):List Int:=(splice W t (((srcW hb Y W a).drop a).take (1+szW W a))).set t (ageless (wat W a))
def slide1 (hb:Nat) (fw:Int→Int) (Y W:List Int) (p:Nat × Nat):List Int :=
 if rawB (hKind (wat W p.1)) then slide0 hb Y W p.1 p.2 else fwdW fw (slide0 hb Y W p.1 p.2) (p.2+1) (szW W p.1)
structure Slid (M:Mem) (fw:Int→Int) (done:List (Nat × Nat)) (top:Nat) (W:List Int):Prop where
 len:W.length=M.W.length
 low:∀ i,i<hbM M→wat W i=wat M.W i
 high:∀ i,top≤i→wat W i=wat M.W i
 head:∀ p∈done,wat W p.2=ageless (wat M.W p.1)
 raw:∀ p∈done,rawB (hKind (wat M.W p.1))=true→∀ k,k<szW M.W p.1→wat W (p.2+1+k)=wat M.W (p.1+1+k)
 fld:∀ p∈done,rawB (hKind (wat M.W p.1))=false→∀ k,k<szW M.W p.1→wat W (p.2+1+k)=fw (wat M.W (p.1+1+k))
 le:∀ p∈done,p.2+1+szW M.W p.1≤top
 hb:hbM M≤top
structure Fits (M:Mem) (p:Nat × Nat):Prop where
 src:(p.1<hbM M∧p.1+1+szW M.W p.1≤hbM M)∨(hbM M≤p.1∧p.2≤p.1)
 inn:p.1+1+szW M.W p.1≤M.W.length
 to_:p.2+1+szW M.W p.1≤M.W.length
section
variable {M:Mem} {fw:Int→Int} {done:List (Nat × Nat)} {top:Nat} {W:List Int}
theorem Slid.at_ (h:Slid M fw done top W) {a:Nat} (hf:Fits M (a,top)) {i:Nat} (hi:a≤i) (hi2:i<a+1+szW M.W a):wat W i=wat M.W i:=by
 rcases hf.src with⟨q1,q2⟩|⟨q1,q2⟩
 ·exact h.low i (by simp only at q1 q2;omega)
 ·exact h.high i (by simp only at q2;omega)
theorem Slid.hd_ (h:Slid M fw done top W) {a:Nat} (hf:Fits M (a,top)):wat W a=wat M.W a:=h.at_ hf (Nat.le_refl _) (by omega)
theorem Slid.sz_ (h:Slid M fw done top W) {a:Nat} (hf:Fits M (a,top)):szW W a=szW M.W a:=by unfold szW;rw[h.hd_ hf]
theorem Slid.src_len (h:Slid M fw done top W) {a:Nat} (hf:Fits M (a,top)) (hw:hbM M≤M.W.length):(((srcW (hbM M) (M.W.take (hbM M)) W a).drop a).take (1+szW W a)).length=1+szW M.W a:=by
 have h1:=hf.src
 have h2:=hf.inn
 simp only at h1 h2
 rw[h.sz_ hf,List.length_take,List.length_drop]
 unfold srcW
 split
 ·rw[h.len];omega
 ·rw[List.length_take];omega
theorem Slid.src_at (h:Slid M fw done top W) {a:Nat} (hf:Fits M (a,top)) (hw:hbM M≤M.W.length) {j:Nat} (hj:j<1+szW M.W a):(((srcW (hbM M) (M.W.take (hbM M)) W a).drop a).take (1+szW W a)).getD j 0=wat M.W (a+j):=by
 have h1:=hf.src
 have h2:=hf.inn
 simp only at h1 h2
 rw[h.sz_ hf,List.getD_eq_getElem?_getD,List.getElem?_take,if_pos hj,List.getElem?_drop]
 unfold srcW
 split
 ·rename_i q
  have:=h.at_ hf (i:=a+j) (by omega) (by omega)
  unfold wat at this
  rw[List.getD_eq_getElem?_getD] at this
  exact this
 ·rw[List.getElem?_take,if_pos (by omega)]
  unfold wat
  rw[List.getD_eq_getElem?_getD]
theorem Slid.wat0 (h:Slid M fw done top W) {a:Nat} (hf:Fits M (a,top)) (hw:hbM M≤M.W.length) (i:Nat) :
  wat (slide0 (hbM M) (M.W.take (hbM M)) W a top) i=if i=top then ageless (wat M.W a) else if top<i∧i<top+1+szW M.W a then wat M.W (a+(i-top)) else wat W i:=by
 have hl:=h.src_len hf hw
 have ht:=hf.to_
 simp only at ht
 unfold slide0
 rw[wat_setI _ _ _ _ (by rw[length_splice _ _ _ (by rw[hl,h.len];omega),h.len];omega),h.hd_ hf]
 by_cases e:i=top
 ·rw[if_pos e,if_pos e]
 ·rw[if_neg e,if_neg e,wat_splice _ _ _ _ (by rw[hl,h.len];omega),hl]
  by_cases q:top<i∧i<top+1+szW M.W a
  ·rw[if_pos q,if_pos ⟨by omega,by omega⟩,h.src_at hf hw (by omega)]
  ·rw[if_neg q,if_neg (by omega)]
theorem Slid.len0 (h:Slid M fw done top W) {a:Nat} (hf:Fits M (a,top)) (hw:hbM M≤M.W.length):(slide0 (hbM M) (M.W.take (hbM M)) W a top).length=M.W.length:=by
 have hl:=h.src_len hf hw
 have ht:=hf.to_
 simp only at ht
 unfold slide0
 rw[List.length_set,length_splice _ _ _ (by rw[hl,h.len];omega),h.len]
theorem Slid.wat1 (h:Slid M fw done top W) {a:Nat} (hf:Fits M (a,top)) (hw:hbM M≤M.W.length) (i:Nat) :
  wat (slide1 (hbM M) fw (M.W.take (hbM M)) W (a,top)) i=if i=top then ageless (wat M.W a) else if top<i∧i<top+1+szW M.W a then (if rawB (hKind (wat M.W a)) then wat M.W (a+(i-top)) else fw (wat M.W (a+(i-top)))) else wat W i:=by
 have ht:=hf.to_
 simp only at ht
 unfold slide1
 simp only
 rw[h.hd_ hf,h.sz_ hf]
 cases hr:rawB (hKind (wat M.W a)) with
 | true=>rw[if_pos rfl,if_pos rfl];exact h.wat0 hf hw i
 | false =>
  simp only[Bool.false_eq_true,if_false]
  rw[wat_fwd _ _ _ _ _ (by rw[h.len0 hf hw];omega),h.wat0 hf hw]
  by_cases e:i=top
  ·rw[if_neg (by omega),if_pos e,if_pos e]
  ·rw[if_neg e,if_neg e]
   by_cases q:top<i∧i<top+1+szW M.W a
   ·rw[if_pos ⟨by omega,by omega⟩,if_pos q,if_pos q]
   ·rw[if_neg (by omega),if_neg q,if_neg q]
theorem Slid.next (h:Slid M fw done top W) {a:Nat} (hf:Fits M (a,top)) (hw:hbM M≤M.W.length):Slid M fw (done++[(a,top)]) (top+1+szW M.W a) (slide1 (hbM M) fw (M.W.take (hbM M)) W (a,top)):=by
 have key:=h.wat1 hf hw
 have hb:=h.hb
 refine⟨?_,fun i hi=>?_,fun i hi=>?_,fun p hp=>?_,fun p hp hr k hk=>?_,fun p hp hr k hk=>?_,fun p hp=>?_,by omega⟩
 ·unfold slide1
  split
  ·exact h.len0 hf hw
  ·rw[fwdW_len];exact h.len0 hf hw
 ·rw[key,if_neg (by omega),if_neg (by omega)];exact h.low i hi
 ·rw[key,if_neg (by omega),if_neg (by omega)];exact h.high i (by omega)
 ·rcases List.mem_append.1 hp with q|q
  ·have:=h.le p q
   rw[key,if_neg (by omega),if_neg (by omega)];exact h.head p q
  ·rw[List.mem_singleton.1 q,key,if_pos rfl]
 ·rcases List.mem_append.1 hp with q|q
  ·have:=h.le p q
   rw[key,if_neg (by omega),if_neg (by omega)];exact h.raw p q hr k hk
  ·rw[List.mem_singleton.1 q] at hr hk ⊢
   simp only at hr hk ⊢
   rw[key,if_neg (by omega),if_pos ⟨by omega,by omega⟩,if_pos hr]
   congr 1;omega
 ·rcases List.mem_append.1 hp with q|q
  ·have:=h.le p q
   rw[key,if_neg (by omega),if_neg (by omega)];exact h.fld p q hr k hk
  ·rw[List.mem_singleton.1 q] at hr hk ⊢
   simp only at hr hk ⊢
   rw[key,if_neg (by omega),if_pos ⟨by omega,by omega⟩,if_neg (by rw[hr];simp)]
   congr 2;omega
 ·rcases List.mem_append.1 hp with q|q
  ·have:=h.le p q;omega
  ·rw[List.mem_singleton.1 q]
   exact Nat.le_refl _
theorem slid_all (hw:hbM M≤M.W.length):∀ (l:List Nat) (t:Nat) (done:List (Nat × Nat)) (W:List Int),Slid M fw done t W→(∀ p∈topsW M.W t l,Fits M p)→Slid M fw (done++topsW M.W t l) (endW M.W t l) ((topsW M.W t l).foldl (slide1 (hbM M) fw (M.W.take (hbM M))) W)
 | [],t,done,W,h,_=>by simpa [topsW,endW] using h
 | a::l,t,done,W,h,hf=>by
  rw[topsW,endW,List.foldl_cons]
  have h1:=h.next (hf (a,t) (by simp[topsW])) hw
  have h2:=slid_all hw l _ _ _ h1 fun p hp=>hf p (by rw[topsW];exact List.mem_cons_of_mem _ hp)
  rw[List.append_assoc] at h2
  exact h2
theorem slid_start (M:Mem) (fw:Int→Int):Slid M fw [] (hbM M) M.W :=
 ⟨rfl,fun _ _=>rfl,fun _ _=>rfl,fun _ h=>by simp at h,fun _ h=>by simp at h,fun _ h=>by simp at h,fun _ h=>by simp at h,Nat.le_refl _⟩
end
def liveM (M:Mem):Nat:=((reachP M).map fun o=>1+o.n).sum
structure Full (M:Mem):Prop where
 ok:M.Ok
 chk:chk M=0
 room:(liveM M:Int)≤M.old
section
variable {M:Mem}
theorem Full.good (h:Full M):goodB M=true:=(chk_zero h.chk).1
theorem Full.shp (h:Full M):Shp M:=(good_parts h.good).1
theorem Full.objs (h:Full M):objsB M (okHd M)=true:=(good_parts h.good).2.1
theorem Full.nums (h:Full M):∃ hh:Nat,M.half=hh∧hbM M=2*hh∧1≤hh∧hh≤65536∧M.W.length=2*hh+M.old.toNat∧M.base+M.top.toNat≤2*hh∧M.oldTop.toNat≤M.old.toNat∧M.old.toNat≤65536∧(M.old.toNat:Int)=M.old∧(M.oldTop.toNat:Int)=M.oldTop:=by
 obtain⟨hh,e1,e2,e3,e4,e5,e6,e7,e8,e9,e10,e11,e12⟩:=h.shp.nums
 refine⟨hh,e1,e2,e4,e5,e6,?_,e8,e9,e10,e12⟩
 rcases e3 with⟨u1,u2,u3⟩|⟨u1,u2,u3⟩<;>omega
theorem Full.place (h:Full M) {x:Ob} (hx:x∈objsAll M):x.w=wat M.W x.a∧isHd (wat M.W x.a)=true∧hMark (wat M.W x.a)=0∧((x∈(partN M).1∧x.a+1+szW M.W x.a≤hbM M)∨(x∈(partO M).1∧hbM M≤x.a∧x.a+1+szW M.W x.a≤hbM M+M.oldTop.toNat)):=by
 obtain⟨hh,e1,e2,e4,e5,e6,e7,e8,e9,e10,e12⟩:=h.nums
 have ho:=h.objs
 rw[objsB] at ho
 simp only[Bool.and_eq_true,List.all_eq_true] at ho
 unfold objsAll at hx
 have hsz:x.n=(hSize x.w).toNat:=rfl
 rcases List.mem_append.1 hx with q|q
 ·have hi:=part_in (show x∈(part M.W M.base (M.base+M.top.toNat)).1 from q)
  have hm:=ho.1.2 x q
  simp only[okHd,Bool.and_eq_true,beq_iff_eq] at hm
  have h1:=hi.to
  have h2:=hi.w
  refine⟨h2,h2 ▸ hi.hd,by rw[←h2];exact hm.1,Or.inl ⟨q,?_⟩⟩
  unfold szW;rw[←h2];omega
 ·have hi:=part_in (show x∈(part M.W (2*M.half).toNat ((2*M.half).toNat+M.oldTop.toNat)).1 from q)
  have hm:=ho.2.2 x q
  simp only[okHd,Bool.and_eq_true,beq_iff_eq] at hm
  have h1:=hi.to
  have h2:=hi.w
  have h3:=hi.lo
  refine⟨h2,h2 ▸ hi.hd,by rw[←h2];exact hm.1,Or.inr ⟨q,h3,?_⟩⟩
  unfold szW hbM;rw[←h2];omega
theorem Full.dom (h:Full M) {a:Nat} (ha:DomM M a):∃ x∈objsAll M,x.a=a∧x∈reachP M∧x.w=wat M.W a:=by
 obtain⟨x,hx,rfl⟩:=List.mem_map.1 ha
 have hm:=(reachP_gath h.good).mem x hx
 exact⟨x,hm,rfl,hx,(h.place hm).1⟩
theorem Full.endE (h:Full M):endM M=hbM M+liveM M:=by
 unfold endM liveM
 rw[endW_sum]
 have h1:((ordP M).map fun a=>1+szW M.W a).sum=(((reachP M).map (·.a)).map fun a=>1+szW M.W a).sum:=((List.mergeSort_perm _ _).map _).sum_nat
 rw[h1,List.map_map]
 congr 2
 refine List.map_congr_left fun o ho=>?_
 have hw:=(h.place ((reachP_gath h.good).mem o ho)).1
 show 1+szW M.W o.a=1+o.n
 unfold szW Ob.n
 rw[hw]
theorem Full.fits (h:Full M):∀ p∈toM M,Fits M p:=by
 intro p hp
 obtain⟨hh,e1,e2,e4,e5,e6,e7,e8,e9,e10,e12⟩:=h.nums
 obtain⟨x,hx,ex,hr,hw⟩:=h.dom (toM_dom hp)
 obtain⟨p1,p2,p3,p4⟩:=h.place hx
 rw[ex] at p2 p3 p4
 have hge:=topsW_ge M.W (ordP M) (hbM M) p hp
 have hend:endW M.W (hbM M) (ordP M)=hbM M+liveM M:=h.endE
 have hroom:=h.room
 refine⟨?_,?_,by omega⟩
 ·rcases p4 with⟨q1,q2⟩|⟨q1,q2,q3⟩
  ·left;omega
  ·right
   refine⟨q2,topsW_left M.W (ordP M) (hbM M) (hbM M) (ordP_pair h.good) (fun a _ q=>q) (fun a ha b hb h1 h2=>?_) p hp q2⟩
   obtain⟨y,hy,ey,-,-⟩:=h.dom ((ordP_mem M a).1 ha)
   obtain⟨z,hz,ez,-,-⟩:=h.dom ((ordP_mem M b).1 hb)
   have py:=(h.place hy).2.2.2
   have pz:=(h.place hz).2.2.2
   have hyO:y∈(partO M).1:=by
    rcases py with⟨r1,r2⟩|⟨r1,r2,r3⟩
    ·omega
    ·exact r1
   have hzO:z∈(partO M).1:=by
    rcases pz with⟨r1,r2⟩|⟨r1,r2,r3⟩
    ·omega
    ·exact r1
   have hl:Laid M.W (hbM M) ((partO M).1.map (·.a)) (hbM M+M.oldTop.toNat):=laid_of_part (parts_true h.objs).2 (by unfold hbM;omega)
   have:=hl.apart (List.mem_map_of_mem (f:=(·.a)) hyO) (List.mem_map_of_mem (f:=(·.a)) hzO) (by omega)
   rw[ey,ez] at this
   omega
 ·rcases p4 with⟨q1,q2⟩|⟨q1,q2,q3⟩<;>omega
theorem Full.hw (h:Full M):hbM M≤M.W.length:=by
 obtain⟨hh,e1,e2,e4,e5,e6,e7,e8,e9,e10,e12⟩:=h.nums
 omega
end
def fw1 (M:Mem) (u:Int):Int:=(fwM M u).1
def majWk (M:Mem) (k:Nat):List Int:=((toM M).take k).foldl (slide1 (hbM M) (fw1 M) (M.W.take (hbM M))) M.W
def majW (M:Mem):List Int:=(toM M).foldl (slide1 (hbM M) (fw1 M) (M.W.take (hbM M))) M.W
theorem Full.slid {M:Mem} (h:Full M):Slid M (fw1 M) (toM M) (endM M) (majW M):=slid_all h.hw (ordP M) (hbM M) [] M.W (slid_start M _) h.fits
def topAt (M:Mem) (k:Nat):Nat:=endW M.W (hbM M) ((ordP M).take k)
theorem topsW_len (W:List Int) (l:List Nat) (t:Nat):(topsW W t l).length=l.length:=by
 have:=congrArg List.length (topsW_fst W l t)
 rw[List.length_map] at this;exact this
theorem topsW_take (W:List Int) (l:List Nat) (t k:Nat):(topsW W t l).take k=topsW W t (l.take k):=by
 by_cases q:k≤l.length
 ·conv=>lhs;rw[←List.take_append_drop k l,topsW_app]
  have hl:(topsW W t (l.take k)).length=k:=by rw[topsW_len,List.length_take];omega
  rw[List.take_append_of_le_length (by omega),List.take_of_length_le (by omega)]
 ·have e1:l.take k=l:=List.take_of_length_le (by omega)
  rw[e1]
  exact List.take_of_length_le (by rw[topsW_len];omega)
theorem Full.slidAt {M:Mem} (h:Full M) (k:Nat):Slid M (fw1 M) ((toM M).take k) (topAt M k) (majWk M k):=by
 unfold majWk topAt toM
 rw[topsW_take]
 refine slid_all h.hw ((ordP M).take k) (hbM M) [] M.W (slid_start M _) fun p hp=>h.fits p ?_
 unfold toM
 rw[←topsW_take] at hp
 exact List.mem_of_mem_take hp
theorem toM_len (M:Mem):(toM M).length=(ordP M).length:=by
 have:=congrArg List.length (topsW_fst M.W (ordP M) (hbM M))
 rw[List.length_map] at this;exact this
theorem toM_at {M:Mem} {k:Nat} (hk:k<(ordP M).length):(toM M)[k]'(by rw[toM_len];exact hk)=((ordP M)[k],topAt M k):=by
 have e:toM M=topsW M.W (hbM M) ((ordP M).take k)++topsW M.W (topAt M k) ((ordP M).drop k):=by
  unfold toM topAt
  rw[←topsW_app,List.take_append_drop]
 have hd:(ordP M).drop k=(ordP M)[k]::(ordP M).drop (k+1):=List.drop_eq_getElem_cons hk
 have hl:(topsW M.W (hbM M) ((ordP M).take k)).length=k:=by
  have:=congrArg List.length (topsW_fst M.W ((ordP M).take k) (hbM M))
  rw[List.length_map,List.length_take] at this
  omega
 have h2:(toM M)[k]?=some ((ordP M)[k],topAt M k):=by
  rw[e,hd,topsW,List.getElem?_append_right (by omega),hl,Nat.sub_self];rfl
 rw[List.getElem?_eq_getElem (by rw[toM_len];exact hk)] at h2
 exact Option.some.inj h2
theorem topAt_next {M:Mem} {k:Nat} (hk:k<(ordP M).length):topAt M (k+1)=topAt M k+1+szW M.W (ordP M)[k]:=by
 unfold topAt
 rw[endW_sum,endW_sum,List.take_add_one,List.getElem?_eq_getElem hk,List.map_append,List.sum_append]
 simp;omega
theorem majWk_next {M:Mem} {k:Nat} (hk:k<(ordP M).length):majWk M (k+1)=slide1 (hbM M) (fw1 M) (M.W.take (hbM M)) (majWk M k) ((ordP M)[k],topAt M k):=by
 unfold majWk
 rw[List.take_add_one,List.getElem?_eq_getElem (by rw[toM_len];exact hk),List.foldl_append,toM_at hk];rfl
theorem majWk_end (M:Mem):majWk M (ordP M).length=majW M:=by
 unfold majWk majW
 rw[show (toM M).take (ordP M).length=toM M from List.take_of_length_le (by rw[toM_len];exact Nat.le_refl _)]
def sumO (l:List Ob):Nat:=(l.map fun o=>1+o.n).sum
theorem sumO_snoc (l:List Ob) (k:Nat) (hk:k<l.length):sumO (l.take (k+1))=sumO (l.take k)+(1+l[k].n):=by
 unfold sumO
 rw[List.take_add_one,List.getElem?_eq_getElem hk,List.map_append,List.sum_append]
 simp
theorem sumO_le (l:List Ob) (h:∀ o∈l,o.n≤4096):sumO l≤4097*l.length:=by
 unfold sumO
 induction l with
 | nil=>simp
 | cons x l ih =>
  have h1:=h x (by simp)
  have h2:=ih fun o ho=>h o (by simp[ho])
  rw[List.map_cons,List.sum_cons,List.length_cons];omega
theorem mReached_walk (b o:Nat) (M:Mem) (S:Sls) (w:World) (hM:RMem w b o M S) (hg:goodB M=true) :
  Calls Tryz.prog 98 #[.pointer (some ⟨b,o,none⟩)] w fun e w'=>e=.returned (.int .i64 (liveM M:Int))∧Ext w w':=by
 obtain⟨hs,-⟩:=good_parts hg
 have hlM:=len_small hs
 have hlr:=words_len hg (reachP_gath hg)
 have hmem:Hid (∀ x∈reachP M,x∈objsAll M):=fun x hx=>(reachP_gath hg).mem x hx
 have hn4:Hid (∀ x∈reachP M,x.n≤4096):=fun x hx=>by
  have h1:=found_n hM.ok hs (hmem.out x hx)
  have h2:hSize x.w≤4096:=((isHd_iff x.w).1 (mem_in hs (hmem.out x hx)).2.2).2.2
  omega
 have HM:=Lib.hid hM
 have HG:=Lib.hid hg
 have HS:=Lib.hid hs
 clear hM hg hs
 go_enter Tryz.func98,Tryz.ntmps98
 go_wp2_with (go_at_call 53;refine (mReach_walk b o M S _ HM.out HG.out).mono ?_;rintro e w1 ⟨ta,tc,mb,rfl,hT,-,-,-,hE⟩;have HT:=Lib.hid hT;have HE1:=Lib.hid hE;clear hT hE)
 obtain⟨-,hR⟩:=Tail.read HT.out
 have HR:=Lib.hid hR
 clear hR
 generalize hl:reachP M=l at *
 have HL:=Lib.hid hl
 clear hl
 generalize hTA:ta=TA
 have HTA:=Lib.hid hTA
 clear hTA
 go_loopg [17,5] (l.length) (fun r i s wr=>∃ k:Nat,k+r=l.length∧i=.int .i64 (k:Int)∧s=.int .i64 ((sumO (l.take k):Nat):Int)∧Hid (Ext w1 wr))
 case atStart=>exact⟨0,by omega,rfl,rfl,Ext.refl _⟩
 case round =>
  obtain⟨k,hk,rfl,rfl,hE⟩:=hrel
  cases gk with
  | succ r =>
   have hlt:k<l.length:=by omega
   have hltz:(k:Int)<(l.length:Int):=by omega
   have hat:(ats l)[k]'(by rw[ats_len];exact hlt)=(l[k].a:Int):=by simp[ats]
   obtain⟨tb,tp,hTe,hc0⟩:=(HR.out.ext hE.out) _ _ (tcells_at (ats l) k (by rw[ats_len];exact hlt))
   rw[hat] at hc0
   obtain rfl:TA=some ⟨tb,tp,none⟩:=HTA.out.symm.trans hTe
   have hm:=hmem.out _ (List.getElem_mem hlt)
   obtain⟨m1,m2,m3⟩:=mem_in HS.out hm
   have hsz:=found_n HM.out.ok HS.out hm
   have hz4:=hn4.out _ (List.getElem_mem hlt)
   have hsn:=sumO_snoc l k hlt
   have hsl:=sumO_le (l.take k) fun x hx=>hn4.out x (List.mem_of_mem_take hx)
   rw[List.length_take] at hsl
   generalize l[k]=x at *
   generalize sumO (l.take k)=s at *
   have hxw:=wat_in HM.out.ok x.a
   rw[←m2] at hxw
   have hMr:RMem wr b o M S:=HM.out.ext (HE1.out.trans_ hE.out)
   have c3:=hMr.W
   have hil:x.a<M.W.length:=by omega
   have hilz:(x.a:Int)<(M.W.length:Int):=by omega
   obtain⟨wb,wo,hWa,hcW⟩:=hMr.rW x.a _ (wcells_at M.W x.a hil)
   have hcW':wr.cell? ⟨wb,wo+x.a,none⟩=some (.int .u64 x.w):=by rw[hcW,m2];simp[wat,List.getD_eq_getElem?_getD,hil]
   rw[hWa] at c3
   have e1:IntKind.i64.wrap (1+hSize x.w)=1+hSize x.w:=IntWalk.i64_in _ (by omega)
   have e2:IntKind.i64.wrap ((s:Int)+(1+hSize x.w))=(s:Int)+(1+hSize x.w):=IntWalk.i64_in _ (by omega)
   have HK:=Lib.hid hk
   have HM3:=Lib.hid m3
   have HXW:=Lib.hid hxw
   have HSN:=Lib.hid hsn
   have HSZ:=Lib.hid hsz
   clear hk hat hm m1 m2 m3 hsz hz4 hsn hsl hxw hMr hil hWa hcW hlt hTe
   go_wp2_with (go_at_call 56;refine (toHead_yes x.w HXW.out.1 HXW.out.2 HM3.out _).mono ?_;rintro e w2 ⟨rfl,hq⟩;have HX2:=Lib.hid hq;clear hq)
   go_roundg r
   case measure=>omega
   case rel =>
    refine⟨k+1,by have:=HK.out;omega,by go_num,?_,(hE.out.trans_ HX2.out).alloc_ _⟩
    have h1:=HSN.out
    have h2:=HSZ.out
    congr 1
    omega
  | zero =>
   obtain rfl:k=l.length:=by omega
   have hltz:¬((l.length:Nat):Int)<(l.length:Int):=by omega
   have hfin:sumO (l.take l.length)=liveM M:=by rw[List.take_length,←HL.out];rfl
   rw[hfin]
   clear hfin hk
   go_wp2
   go_ret
   exact⟨rfl,HE1.out.trans_ hE.out⟩
def CNo (w:World) (E:Nat→Addr) (c:Int) (e:Ending) (w':World):Prop:=e=.returned (errC E c)∧Ext w w'
theorem collect_full (b o:Nat) (M:Mem) (S:Sls) (E:Nat→Addr) (ten:Int) (w:World) (hM:RMem w b o M S) (hE:G4 E w) (h:chk M=0) (t0:0≤ten) (t1:ten≤15) (hf:M.old-M.oldTop<M.top) :
  Calls Tryz.prog 44 #[.pointer (some ⟨b,o,none⟩),.int .i64 ten] w (CNo w E 6):=by
 have HC:Hid (errC E (chk M)=.nilIface):=by rw[Hid,h];rfl
 obtain⟨hs,-⟩:=good_parts (chk_zero h).1
 have s3:=hs.o1;have s4:=hs.o2;have s7:=hs.p1;have s8:=hs.p2
 have e1:IntKind.i64.wrap (M.old-M.oldTop)=M.old-M.oldTop:=IntWalk.i64_in _ (by omega)
 have HM:=Lib.hid hM
 have HE:=Lib.hid hE
 have HF:=Lib.hid hf
 clear hM hE h hs hf
 go_enter Tryz.func44,Tryz.ntmps44
 go_wp2_with (go_at_call 90;refine (check_c b o M S E w HM.out HE.out.toG3).mono ?_;rintro e w1 ⟨he,hq⟩;rw[HC.out] at he;subst he;have HX1:=Lib.hid hq;clear hq)
 have hM1:=HM.out.ext HX1.out
 have d1:=hM1.old
 have d6:=hM1.oldTop
 have d5:=hM1.top
 have k5:=(HE.out.ext HX1.out).full
 have hf:=HF.out
 clear hM1
 go_region
 go_wp2
 go_ret
 exact⟨rfl,HX1.out.drew_⟩
end Go.Proofs.YtelhoppfidibiaaGreatDoor
