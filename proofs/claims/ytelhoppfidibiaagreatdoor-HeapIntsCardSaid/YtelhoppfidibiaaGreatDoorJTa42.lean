/- The text of a text's words: plainly. -/
import Derived.Test.YtelhoppfidibiaaGreatDoorJTa37
import Derived.Lib.Strings
import Derived.Test.YtelhoppfidibiaaGreatDoorJTa41
import Derived.Test.YtelhoppfidibiaaGreatDoorJTa27
set_option linter.unusedSimpArgs false
set_option linter.unusedVariables false
set_option maxHeartbeats 4000000
set_option maxRecDepth 100000
namespace Go.Proofs.YtelhoppfidibiaaGreatDoor
open Go.RowKit
def showI (I:Ideal):ByteArray:=objsT I.V (reachI I) 0 (reachI I) (rootsS (reachI I) I.roots ⟨#[]⟩)
section
variable {V W:List Int} {Dom:Nat→Prop} {f:Nat→Nat}
theorem objsT_map (hm:Morph V W Dom f) {l:List Ob} (h:InD V Dom l):∀ (r:List Ob) (i:Nat) (out:ByteArray),InD V Dom r→(∀ o∈r,RawOk V o)→objsT W (l.map fun o=>obW W (f o.a)) i (r.map fun o=>obW W (f o.a)) out=objsT V l i r out
 | [],i,out,_,_=>rfl
 | o::r,i,out,hr,hro=>by
  obtain⟨hd,e⟩:=hr o (by simp)
  have hok:=hro o (by simp)
  have ew:o.w=wat V o.a:=by rw[e];rfl
  rw[List.map_cons,objsT,objsT]
  have hk:hKind (obW W (f o.a)).w=hKind o.w:=by rw[ew];exact hm.kind _ hd
  have hn:(obW W (f o.a)).n=o.n:=by unfold Ob.n;rw[ew];show (hSize (wat W (f o.a))).toNat=_;rw[hm.size _ hd]
  have hsz:szW V o.a=o.n:=by unfold szW Ob.n;rw[ew]
  have hraw:hKind o.w<8→∀ k,k<o.n→wat W (f o.a+1+k)=wat V (o.a+1+k):=fun q k hk2=>hm.raw o.a hd (by rw[←ew];unfold rawB;exact decide_eq_true q) k (by rw[hsz];exact hk2)
  have hb:∀ out,bodyS W (l.map fun o=>obW W (f o.a)) (obW W (f o.a)) out=bodyS V l o out:=fun out=>by
   unfold bodyS
   rw[hk]
   by_cases k1:hKind o.w=1
   ·rw[if_pos k1,if_pos k1]
    have e1:=hraw (by omega) 0 (by have:=hok.one k1;omega)
    have e2:longOf W (obW W (f o.a)).a=longOf V o.a:=by unfold longOf;show wrap64 (wat W (f o.a+1))=_;rw[show f o.a+1=f o.a+1+0 from rfl,e1]
    rw[e2]
   ·rw[if_neg k1,if_neg k1]
    by_cases k2:hKind o.w=2
    ·rw[if_pos k2,if_pos k2]
     obtain⟨t1,t2,t3⟩:=hok.two k2
     have e1:=hraw (by omega) 0 (by omega)
     have e0:wat W (f o.a+1)=wat V (o.a+1):=e1
     have e2:textOf W (obW W (f o.a)).a=textOf V o.a:=by
      unfold textOf
      show strOfNums (textP (tailW W (f o.a) (((wat W (f o.a+1)).toNat+7)/8)) (wat W (f o.a+1)).toNat (wat W (f o.a+1)).toNat)=_
      rw[e0]
      have e3:tailW W (f o.a) (((wat V (o.a+1)).toNat+7)/8)=tailW V o.a (((wat V (o.a+1)).toNat+7)/8):=by
       unfold tailW
       refine List.map_congr_left fun j hj=>?_
       have hj2:=List.mem_range.1 hj
       have:=hraw (by omega) (1+j) (by omega)
       rw[show f o.a+2+j=f o.a+1+(1+j) by omega,show o.a+2+j=o.a+1+(1+j) by omega]
       exact this
      rw[e3]
     rw[e2]
    ·rw[if_neg k2,if_neg k2]
     have k8:¬hKind o.w<8:=by rcases hok.kind with q|q|q<;>omega
     have hrw:rawB (hKind (wat V o.a))=false:=by rw[←ew];unfold rawB;exact decide_eq_false k8
     refine fieldsS_map hm h _ k8 _ _ _ (by simp[fldsW,hn]) fun i hi=>?_
     have hi':i<o.n:=by simpa [fldsW] using hi
     have g1:(fldsW V o).getD i 0=wat V (o.a+1+i):=by simp[fldsW,List.getD_eq_getElem?_getD,hi']
     have g2:(fldsW W (obW W (f o.a))).getD i 0=wat W (f o.a+1+i):=by
      have hi2:i<(obW W (f o.a)).n:=by rw[hn];exact hi'
      simp[fldsW,List.getD_eq_getElem?_getD,hi2];rfl
     rw[g1,g2]
     exact hm.fld o.a hd hrw i (by rw[hsz];exact hi')
  rw[hk,hb]
  exact objsT_map hm h r (i+1) _ (fun x hx=>hr x (by simp[hx])) (fun x hx=>hro x (by simp[hx]))
theorem rawok_map (hm:Morph V W Dom f) {o:Ob} (hd:Dom o.a) (e:o=obW V o.a) (h:RawOk V o):RawOk W (obW W (f o.a)):=by
 have ew:o.w=wat V o.a:=by rw[e];rfl
 have hk:hKind (obW W (f o.a)).w=hKind o.w:=by rw[ew];exact hm.kind _ hd
 have hn:(obW W (f o.a)).n=o.n:=by unfold Ob.n;rw[ew];show (hSize (wat W (f o.a))).toNat=_;rw[hm.size _ hd]
 have hsz:szW V o.a=o.n:=by unfold szW Ob.n;rw[ew]
 refine⟨by rw[hk];exact h.kind,fun q=>by rw[hn];exact h.one (hk ▸ q),fun q=>?_⟩
 rw[hk] at q
 obtain⟨t1,t2,t3⟩:=h.two q
 have e1:wat W (f o.a+1)=wat V (o.a+1):=hm.raw o.a hd (by rw[←ew,q];rfl) 0 (by rw[hsz];omega)
 rw[hn]
 show 0≤wat W (f o.a+1)∧wat W (f o.a+1)≤2000∧o.n=1+((wat W (f o.a+1)).toNat+7)/8
 rw[e1]
 exact⟨t1,t2,t3⟩
end
def WordOk (P:List Nat) (u:Int):Prop:=(∃ a∈P,u=addrW ((a:Nat):Int))∨(∃ n,smallB n=true∧u=intW n)∨∃ c:Int,(0≤c∧c≤2)∧u=constW c
structure HeadOk (V:List Int) (a:Nat):Prop where
 hd:∃ kind:Int,∃ n:Nat,wat V a=headW kind 0 0 (n:Int)∧(0≤kind∧kind≤255)∧n≤4096
 raw:RawOk V (obW V a)
structure IWF (I:Ideal):Prop where
 dom:∀ a∈I.P,a+1+szW I.V a≤I.V.length
 apart:∀ a∈I.P,∀ b∈I.P,a<b→a+1+szW I.V a≤b
 nodup:I.P.Nodup
 head:∀ a∈I.P,HeadOk I.V a
 fld:∀ a∈I.P,rawB (hKind (wat I.V a))=false→∀ k,k<szW I.V a→WordOk I.P (wat I.V (a+1+k))
 roots:∀ u∈I.roots,WordOk I.P u
 weak:∀ u∈I.weak,∃ a∈I.P,u=addrW ((a:Nat):Int)
 ids:∀ x∈I.ids,∃ a∈I.P,x.1=addrW ((a:Nat):Int)
section
variable {I:Ideal} {M:Mem} {D:Nat→Prop} {f:Nat→Nat} {nx:Int}
theorem Rep.show (h:Rep I M D f) (hg:goodB M=true) (hw:IWF I):showS M=showI I∧∀ x∈reachP M,RawOk M.W x:=by
 obtain⟨e1,e2,-,-⟩:=h.reach hg
 have hro:∀ o∈reachI I,RawOk I.V o:=fun o ho=>by
  obtain⟨d1,d2⟩:=e2 o ho
  rw[d2];exact (hw.head o.a (h.nodes _ d1)).raw
 refine⟨?_,fun x hx=>?_⟩
 ·unfold showS showI
  rw[e1,rootsS_map h.morph e2 I.roots M.roots _ h.lenR h.roots,objsT_map h.morph e2 _ 0 _ e2 hro]
 ·rw[e1] at hx
  obtain⟨o,ho,rfl⟩:=List.mem_map.1 hx
  obtain⟨d1,d2⟩:=e2 o ho
  exact rawok_map h.morph d1 d2 (hro o ho)
theorem Holds.show (h:Holds I M) (hI:HInv M nx) (hw:IWF I):showS M=showI I∧∀ x∈reachP M,RawOk M.W x:=by
 obtain⟨D,f,h⟩:=h
 exact h.show (chk_zero hI.chk).1 hw
theorem WordOk.mono {P Q:List Nat} {u:Int} (h:WordOk P u) (hs:∀ a∈P,a∈Q):WordOk Q u:=by
 rcases h with⟨a,ha,e⟩|h
 ·exact Or.inl ⟨a,hs a ha,e⟩
 ·exact Or.inr h
theorem wordOk_const (P:List Nat) {c:Int} (h:0≤c∧c≤2):WordOk P (constW c):=Or.inr (Or.inr ⟨c,h,rfl⟩)
theorem wordOk_none (P:List Nat):WordOk P 2:=Or.inr (Or.inr ⟨0,by omega,by decide⟩)
theorem IWF.root (h:IWF I) {r:Nat} (hr:r<I.roots.length):WordOk I.P (I.roots.getD r 0):=by
 refine h.roots _ ?_
 rw[List.getD_eq_getElem?_getD,List.getElem?_eq_getElem hr]
 exact List.getElem_mem hr
theorem WordOk.pts (h:IWF I) (hl:I.V.length≤1000000000) {u:Int} (hu:WordOk I.P u) {a:Nat} (hp:ptsW u=(a:Int)):a∈I.P∧u=addrW (a:Int):=by
 rcases hu with⟨b,hb,rfl⟩|⟨n,-,rfl⟩|⟨c,-,rfl⟩
 ·have hd:=h.dom b hb
  have h1:=(pts_addr (n:=b) (by omega)).1
  obtain rfl:b=a:=by omega
  exact⟨hb,rfl⟩
 ·have:=pts_int n;omega
 ·have:=pts_const (v:=c);omega
theorem IWF.setR (h:IWF I) (r:Nat) {u:Int} (hu:WordOk I.P u):IWF (I.setR r u) :=
 ⟨h.dom,h.apart,h.nodup,h.head,h.fld,fun v hv=>by
  rcases List.mem_or_eq_of_mem_set (show v∈I.roots.set r u from hv) with q|q
  ·exact h.roots v q
  ·rw[q];exact hu,h.weak,h.ids⟩
theorem IWF.addId (h:IWF I) {a:Nat} (ha:a∈I.P) (s:Int):IWF (I.addId (addrW (a:Int)) s) :=
 ⟨h.dom,h.apart,h.nodup,h.head,h.fld,h.roots,h.weak,fun x hx=>by
  rcases List.mem_append.1 (show x∈I.ids++[_] from hx) with q|q
  ·exact h.ids x q
  ·rw[List.mem_singleton.1 q];exact⟨a,ha,rfl⟩⟩
theorem IWF.addWeak (h:IWF I) {a:Nat} (ha:a∈I.P):IWF (I.addWeak (addrW (a:Int))) :=
 ⟨h.dom,h.apart,h.nodup,h.head,h.fld,h.roots,fun x hx=>by
  rcases List.mem_append.1 (show x∈I.weak++[_] from hx) with q|q
  ·exact h.weak x q
  ·rw[List.mem_singleton.1 q];exact⟨a,ha,rfl⟩,h.ids⟩
theorem HeadOk.same {V W:List Int} {a:Nat} (h:HeadOk V a) (hs:∀ i,i<1+szW V a→wat W (a+i)=wat V (a+i)):HeadOk W a:=by
 have e0:wat W a=wat V a:=hs 0 (by omega)
 have eo:obW W a=obW V a:=by unfold obW;rw[e0]
 refine⟨by rw[e0];exact h.hd,?_⟩
 rw[eo]
 have hn:(obW V a).n=szW V a:=rfl
 refine⟨h.raw.kind,h.raw.one,fun q=>?_⟩
 obtain⟨t1,t2,t3⟩:=h.raw.two q
 have e1:wat W ((obW V a).a+1)=wat V ((obW V a).a+1):=hs 1 (by rw[←hn];omega)
 rw[e1]
 exact⟨t1,t2,t3⟩
theorem IWF.new (h:IWF I) {kind:Int} {us:List Int} (hk:0≤kind∧kind≤255) (hz:us.length≤4096) (hr:RawOk (I.new kind us).V (obW (I.new kind us).V I.V.length)) (hu:rawB kind=false→∀ u∈us,WordOk I.P u):IWF (I.new kind us):=by
 have hP:∀ a∈(I.new kind us).P,a∈I.P∨a=I.V.length:=fun a ha=>by
  rcases List.mem_append.1 (show a∈I.P++[I.V.length] from ha) with q|q
  ·exact Or.inl q
  ·exact Or.inr (List.mem_singleton.1 q)
 have hsub:∀ a∈I.P,a∈(I.new kind us).P:=fun a ha=>List.mem_append.2 (Or.inl ha)
 have hlen:(I.new kind us).V.length=I.V.length+1+us.length:=by unfold Ideal.new;simp;omega
 obtain⟨d1,d2,d3,d4,d5⟩:=headW_hd kind 0 0 (us.length:Int) hk (by omega) (by omega) ⟨by omega,by omega⟩
 have hw:∀ a∈I.P,∀ i,i<1+szW I.V a→wat (I.new kind us).V (a+i)=wat I.V (a+i):=fun a ha i hi=>new_old I kind us (by have:=h.dom a ha;omega)
 have hw0:∀ a∈I.P,wat (I.new kind us).V a=wat I.V a:=fun a ha=>hw a ha 0 (by omega)
 have hs:∀ a∈I.P,szW (I.new kind us).V a=szW I.V a:=fun a ha=>by unfold szW;rw[hw0 a ha]
 have hsn:szW (I.new kind us).V I.V.length=us.length:=by unfold szW;rw[new_hd,d5];omega
 refine⟨fun a ha=>?_,fun a ha b hb hab=>?_,?_,fun a ha=>?_,fun a ha hq k hk2=>?_,fun u hu2=>(h.roots u hu2).mono hsub,fun u hu2=>?_,fun x hx=>?_⟩
 ·rcases hP a ha with q|rfl
  ·rw[hs a q,hlen];have:=h.dom a q;omega
  ·rw[hsn,hlen];omega
 ·rcases hP a ha with q|rfl
  ·rw[hs a q]
   rcases hP b hb with r|rfl
   ·exact h.apart a q b r hab
   ·exact h.dom a q
  ·rcases hP b hb with r|rfl
   ·have:=h.dom b r;omega
   ·omega
 ·show (I.P++[I.V.length]).Nodup
  rw[List.nodup_append]
  refine⟨h.nodup,by simp,fun a ha b hb e=>?_⟩
  rw[List.mem_singleton.1 hb] at e
  have:=h.dom a ha;omega
 ·rcases hP a ha with q|rfl
  ·exact (h.head a q).same (hw a q)
  ·exact⟨⟨kind,us.length,new_hd I kind us,hk,hz⟩,hr⟩
 ·rcases hP a ha with q|rfl
  ·rw[hs a q] at hk2
   rw[hw0 a q] at hq
   rw[show a+1+k=a+(1+k) by omega,hw a q (1+k) (by omega),show a+(1+k)=a+1+k by omega]
   exact (h.fld a q hq k hk2).mono hsub
  ·rw[hsn] at hk2
   rw[new_hd,d2] at hq
   rw[new_fld]
   refine (hu hq _ ?_).mono hsub
   rw[List.getD_eq_getElem?_getD,List.getElem?_eq_getElem hk2]
   exact List.getElem_mem hk2
 ·obtain⟨a,ha,e⟩:=h.weak u hu2
  exact⟨a,hsub a ha,e⟩
 ·obtain⟨a,ha,e⟩:=h.ids x hx
  exact⟨a,hsub a ha,e⟩
theorem IWF.put (h:IWF I) {a k:Nat} (ha:a∈I.P) (hr:rawB (hKind (wat I.V a))=false) (hk:k<szW I.V a) {u:Int} (hu:WordOk I.P u):IWF (I.put (a+1+k) u):=by
 have hd:=h.dom a ha
 have hlen:(I.put (a+1+k) u).V.length=I.V.length:=List.length_set
 have ne:∀ i,i≠a+1+k→wat (I.put (a+1+k) u).V i=wat I.V i:=fun i hi=>wat_set _ _ _ _ hi
 have hw0:∀ b∈I.P,wat (I.put (a+1+k) u).V b=wat I.V b:=fun b hb=>ne b fun e=>by
  by_cases q:b=a
  ·omega
  ·rcases Nat.lt_or_gt_of_ne q with q|q
   ·have:=h.apart b hb a ha q;omega
   ·have:=h.apart a ha b hb q;omega
 have hs:∀ b∈I.P,szW (I.put (a+1+k) u).V b=szW I.V b:=fun b hb=>by unfold szW;rw[hw0 b hb]
 have hw:∀ b∈I.P,b≠a→∀ i,i<1+szW I.V b→wat (I.put (a+1+k) u).V (b+i)=wat I.V (b+i):=fun b hb q i hi=>ne _ fun e=>by
  rcases Nat.lt_or_gt_of_ne q with q|q
  ·have:=h.apart b hb a ha q;omega
  ·have:=h.apart a ha b hb q;omega
 refine⟨fun b hb=>by rw[hs b hb,hlen];exact h.dom b hb,fun b hb c hc hbc=>by rw[hs b hb];exact h.apart b hb c hc hbc,h.nodup,fun b hb=>?_,fun b hb hq i hi=>?_,h.roots,h.weak,h.ids⟩
 ·by_cases q:b=a
  ·subst q
   have e0:=hw0 b hb
   have eo:obW (I.put (b+1+k) u).V b=obW I.V b:=by unfold obW;rw[e0]
   have h8:8≤hKind (wat I.V b):=by unfold rawB at hr;simpa using hr
   refine⟨by rw[e0];exact (h.head b hb).hd,?_⟩
   rw[eo]
   have hw8:8≤hKind (obW I.V b).w:=h8
   exact⟨Or.inr (Or.inr h8),fun q=>by omega,fun q=>by omega⟩
  ·exact (h.head b hb).same (hw b hb q)
 ·rw[hs b hb] at hi
  rw[hw0 b hb] at hq
  by_cases q:b+1+i=a+1+k
  ·rw[q]
   have:wat (I.put (a+1+k) u).V (a+1+k)=u:=wat_set_same _ _ _ (by omega)
   rw[this];exact hu
  ·rw[ne _ q];exact h.fld b hb hq i hi
theorem rawok_int (I:Ideal) (v:Int):RawOk (I.new 1 [v]).V (obW (I.new 1 [v]).V I.V.length):=by
 have hd:(obW (I.new 1 [v]).V I.V.length).w=headW 1 0 0 1:=new_hd I 1 [v]
 have hk:hKind (obW (I.new 1 [v]).V I.V.length).w=1:=by rw[hd];decide
 exact⟨Or.inl hk,fun _=>by unfold Ob.n;rw[hd];decide,fun q=>by omega⟩
theorem rawok_text (I:Ideal) (s:ByteArray) (hs:s.size≤2000):RawOk (I.new 2 ((s.size:Int)::strL s)).V (obW (I.new 2 ((s.size:Int)::strL s)).V I.V.length):=by
 have hll:=strL_len s
 have hd:(obW (I.new 2 ((s.size:Int)::strL s)).V I.V.length).w=headW 2 0 0 (((s.size:Int)::strL s).length:Int):=new_hd I 2 _
 have e1:wat (I.new 2 ((s.size:Int)::strL s)).V (I.V.length+1)=(s.size:Int):=new_fld I 2 _ 0
 obtain⟨d1,d2,d3,d4,d5⟩:=headW_hd 2 0 0 (((s.size:Int)::strL s).length:Int) (by omega) (by omega) (by omega) ⟨by omega,by simp;omega⟩
 have hk:hKind (obW (I.new 2 ((s.size:Int)::strL s)).V I.V.length).w=2:=by rw[hd,d2]
 refine⟨Or.inr (Or.inl hk),fun q=>by omega,fun _=>?_⟩
 show 0≤wat (I.new 2 ((s.size:Int)::strL s)).V (I.V.length+1)∧wat (I.new 2 ((s.size:Int)::strL s)).V (I.V.length+1)≤2000∧_=1+((wat (I.new 2 ((s.size:Int)::strL s)).V (I.V.length+1)).toNat+7)/8
 rw[e1,Int.toNat_natCast]
 refine⟨by omega,by omega,?_⟩
 unfold Ob.n
 rw[hd,d5]
 simp;omega
theorem rawok_make (I:Ideal) {kind:Int} (us:List Int) (hk:8≤kind∧kind≤255) (hz:us.length≤4096):RawOk (I.new kind us).V (obW (I.new kind us).V I.V.length):=by
 have hd:(obW (I.new kind us).V I.V.length).w=headW kind 0 0 (us.length:Int):=new_hd I kind us
 obtain⟨d1,d2,d3,d4,d5⟩:=headW_hd kind 0 0 (us.length:Int) (by omega) (by omega) (by omega) ⟨by omega,by omega⟩
 have hk2:hKind (obW (I.new kind us).V I.V.length).w=kind:=by rw[hd,d2]
 exact⟨Or.inr (Or.inr (by omega)),fun q=>by omega,fun q=>by omega⟩
theorem IWF.doN (h:IWF I) (hl:I.V.length≤900000000) (ak:AK) (x:ActP) (hx:I64 x.n) (is:Bool) (he:errI I ak x=0):IWF (doN I nx ak x is).1∧(doN I nx ak x is).1.V.length≤I.V.length+5000∧(doN I nx ak x is).1.roots.length=I.roots.length:=by
 have rt:∀ {r:Int} {c:Int},(if rootI I r then c else 5)=0→rootI I r=true:=fun {r c} q=>by
  cases hr:rootI I r with
  | true=>rfl
  | false=>rw[hr] at q;cases q
 have hset:∀ (J:Ideal) (r:Nat) (u:Int),(J.setR r u).roots.length=J.roots.length:=fun J r u=>by show (J.roots.set r u).length=_;rw[List.length_set]
 cases ak with
 | int =>
  show IWF (I.int x.a.toNat x.n)∧_∧_
  change IWF (I.int x.a.toNat x.n)∧(I.int x.a.toNat x.n).V.length≤_∧(I.int x.a.toNat x.n).roots.length=_
  unfold Ideal.int
  cases hs:smallB x.n with
  | true=>exact⟨h.setR _ (Or.inr (Or.inl ⟨x.n,hs,rfl⟩)),by show I.V.length≤_;omega,hset _ _ _⟩
  | false =>
   have h1:IWF (I.new 1 [IntKind.u64.wrap x.n]):=h.new (by omega) (by simp) (rawok_int I _) (fun q=>by cases q)
   exact⟨h1.setR _ (Or.inl ⟨I.V.length,List.mem_append.2 (Or.inr (by simp)),rfl⟩),by show (I.V++_).length≤_;simp,hset _ _ _⟩
 | const =>
  rw[eI_const] at he
  have hr:=rt he
  rw[hr,if_pos rfl] at he
  have hc:0≤x.b∧x.b≤2:=by split at he;assumption;cases he
  exact⟨h.setR _ (wordOk_const I.P hc),by show I.V.length≤_;omega,hset _ _ _⟩
 | text =>
  rw[eI_text] at he
  have hr:=rt he
  rw[hr,if_pos rfl] at he
  have hs:x.s.size≤2000:=by split at he;assumption;cases he
  have hll:=strL_len x.s
  have h1:IWF (I.new 2 ((x.s.size:Int)::strL x.s)):=h.new (by omega) (by simp;omega) (rawok_text I x.s hs) (fun q=>by cases q)
  exact⟨h1.setR _ (Or.inl ⟨I.V.length,List.mem_append.2 (Or.inr (by simp)),rfl⟩),by show (I.V++_).length≤_;simp;omega,hset _ _ _⟩
 | make =>
  rw[eI_make] at he
  have hr:=rt he
  rw[hr,if_pos rfl] at he
  have hb:¬(x.b<8∨255<x.b∨x.c<0∨4096<x.c):=by split at he;cases he;assumption
  have h1:IWF (I.new x.b (List.replicate x.c.toNat 2)):=h.new (by omega) (by simp;omega) (rawok_make I _ (by omega) (by simp;omega)) (fun _ u hu=>by rw[(List.mem_replicate.1 hu).2];exact wordOk_none _)
  exact⟨h1.setR _ (Or.inl ⟨I.V.length,List.mem_append.2 (Or.inr (by simp)),rfl⟩),by show (I.V++_).length≤_;simp;omega,hset _ _ _⟩
 | copy =>
  rw[eI_copy] at he
  have hr:(rootI I x.a&&rootI I x.b)=true:=by split at he;assumption;cases he
  obtain⟨sn,es,hs⟩:=rootI_at (Bool.and_eq_true_iff.1 hr).2
  exact⟨h.setR _ (h.root (by omega)),by show I.V.length≤_;omega,hset _ _ _⟩
 | get =>
  rw[eI_get] at he
  have hr:(rootI I x.a&&rootI I x.c)=true:=by split at he;assumption;cases he
  rw[hr,if_pos rfl] at he
  obtain⟨a,j,rn,ea,eb,hat,epl⟩:=field_at (Bool.and_eq_true_iff.1 hr).1 he
  have hm:=(WordOk.pts h (by omega) (h.root hat.lt) hat.pts).1
  refine⟨h.setR _ ?_,by show I.V.length≤_;omega,hset _ _ _⟩
  rw[epl];exact h.fld a hm hat.raw j hat.k
 | put =>
  rw[eI_put] at he
  have hr:(rootI I x.a&&rootI I x.c)=true:=by split at he;assumption;cases he
  rw[hr,if_pos rfl] at he
  obtain⟨a,j,rn,ea,eb,hat,epl⟩:=field_at (Bool.and_eq_true_iff.1 hr).1 he
  obtain⟨sn,es,hs⟩:=rootI_at (Bool.and_eq_true_iff.1 hr).2
  have hm:=(WordOk.pts h (by omega) (h.root hat.lt) hat.pts).1
  show IWF (I.put (fplI I x.a x.b) (I.roots.getD x.c.toNat 0))∧(I.put (fplI I x.a x.b) (I.roots.getD x.c.toNat 0)).V.length≤_∧_
  rw[epl]
  exact⟨h.put hm hat.raw hat.k (h.root (by omega)),by show (I.V.set _ _).length≤_;rw[List.length_set];omega,rfl⟩
 | minor=>exact⟨h,by show I.V.length≤_;omega,rfl⟩
 | major=>exact⟨h,by show I.V.length≤_;omega,rfl⟩
 | other=>exact⟨h,by show I.V.length≤_;omega,rfl⟩
 | serial =>
  rw[eI_serial] at he
  have hr:=rt he
  rw[hr,if_pos rfl] at he
  obtain⟨rn,er,hl2⟩:=rootI_at hr
  have hp:0≤ptsW (I.roots.getD x.a.toNat 0):=by unfold ptrI at he;split at he;assumption;cases he
  obtain⟨hm,e⟩:=WordOk.pts h (by omega) (h.root (show x.a.toNat<I.roots.length by omega)) (a:=(ptsW (I.roots.getD x.a.toNat 0)).toNat) (by omega)
  show IWF (serD I nx x).1∧(serD I nx x).1.V.length≤_∧(serD I nx x).1.roots.length=_
  unfold serD
  split
  ·exact⟨h,by show I.V.length≤_;omega,rfl⟩
  ·refine⟨?_,by show I.V.length≤_;omega,rfl⟩
   show IWF (I.addId (I.roots.getD x.a.toNat 0) nx)
   rw[e];exact h.addId hm nx
 | weak =>
  rw[eI_weak] at he
  have hr:=rt he
  rw[hr,if_pos rfl] at he
  obtain⟨rn,er,hl2⟩:=rootI_at hr
  have hp:0≤ptsW (I.roots.getD x.a.toNat 0):=by unfold ptrI at he;split at he;assumption;cases he
  obtain⟨hm,e⟩:=WordOk.pts h (by omega) (h.root (show x.a.toNat<I.roots.length by omega)) (a:=(ptsW (I.roots.getD x.a.toNat 0)).toNat) (by omega)
  refine⟨?_,by show I.V.length≤_;omega,rfl⟩
  show IWF (I.addWeak (I.roots.getD x.a.toNat 0))
  rw[e];exact h.addWeak hm
 | look =>
  rw[eI_look] at he
  have hc:((decide (0≤x.a)&&decide (x.a<(I.weak.length:Int)))&&rootI I x.b)=true:=by split at he;assumption;cases he
  simp only[Bool.and_eq_true,decide_eq_true_eq] at hc
  refine⟨h.setR _ ?_,by show I.V.length≤_;omega,hset _ _ _⟩
  split
  ·have hi:x.a.toNat<I.weak.length:=by omega
   obtain⟨a,ha,e⟩:=h.weak (I.weak.getD x.a.toNat 0) (by rw[List.getD_eq_getElem?_getD,List.getElem?_eq_getElem hi];exact List.getElem_mem hi)
   exact Or.inl ⟨a,ha,e⟩
  ·exact wordOk_none _
theorem iwf_fresh (n:Nat):IWF (Ideal.fresh n):=by
 refine⟨fun a ha=>by simp[Ideal.fresh] at ha,fun a ha=>by simp[Ideal.fresh] at ha,by simp[Ideal.fresh],fun a ha=>by simp[Ideal.fresh] at ha,fun a ha=>by simp[Ideal.fresh] at ha,fun u hu=>?_,fun u hu=>by simp[Ideal.fresh] at hu,fun x hx=>by simp[Ideal.fresh] at hx⟩
 rw[(List.mem_replicate.1 (show u∈List.replicate n 2 from hu)).2];exact wordOk_none _
theorem IWF.wk (h:IWF I) (hl:I.V.length≤1000000000):∀ i,i<I.weak.length→∃ a:Nat,ptsW (I.weak.getD i 0)=(a:Int):=fun i hi=>by
 obtain⟨a,ha,e⟩:=h.weak (I.weak.getD i 0) (by rw[List.getD_eq_getElem?_getD,List.getElem?_eq_getElem hi];exact List.getElem_mem hi)
 have:=h.dom a ha
 exact⟨a,by rw[e];exact (pts_addr (by omega)).1⟩
end
def briefG:Int→List ActP→Option Int
 | m,[]=>some m
 | m,x::l=>if x.nm=⟨#[109,97,107,101]⟩∧300<x.c∧x.c≤4096 then none else briefG (wrap64 (m+(x.s.size:Int))) l
def briefE (n:Nat):Option Int→Bool
 | none=>false
 | some m=>decide ((n:Int)≤120)&&decide (m≤3000)
def briefB (l:List ActP):Bool:=briefE l.length (briefG 0 l)
theorem briefB_len {l:List ActP} (h:briefB l=true):l.length≤120:=by
 unfold briefB at h
 cases hg:briefG 0 l with
 | none=>rw[hg] at h;cases h
 | some m =>
  rw[hg] at h
  have:=of_decide_eq_true (Bool.and_eq_true_iff.1 h).1
  omega
theorem brief_walk (l:List ActP) (A:Option Addr) (C:Nat) (w:World) (h:RActs w A l) :
  Calls Tryz.prog 26 #[.slice A l.length C] w fun e w'=>e=.returned (.bool (briefB l))∧Ext w w':=by
 have HR:=Lib.hid h
 have hln:=h.len
 clear h
 go_enter Tryz.func26,Tryz.ntmps26
 go_upto_region 3 with fail
 go_loopg [3,4] (l.length) (fun r n i wr=>∃ (k:Nat) (m:Int),k+r=l.length∧i=.int .i64 (k:Int)∧n=.int .i64 m∧Hid (briefB l=briefE l.length (briefG m (l.drop k)))∧Hid (Ext w wr))
 case atStart=>exact⟨0,0,by omega,rfl,rfl,rfl,Ext.refl _⟩
 case round =>
  obtain⟨k,m,hk,rfl,rfl,hG,hE⟩:=hrel
  have hsz:=hE.out.size
  cases gk with
  | succ r =>
   have hlt:k<l.length:=by omega
   have hltz:(k:Int)<(l.length:Int):=by omega
   obtain⟨g,o,hfe,c0,c1,c2,c3,c4,c5⟩:=(HR.out.ext hE.out).at_ k hlt
   subst hfe
   have hdr:l.drop k=l[k]::l.drop (k+1):=List.drop_eq_getElem_cons hlt
   rw[hdr] at hG
   clear hdr
   generalize l[k]=x at *
   have HK:=Lib.hid hk
   by_cases hm:x.nm=⟨#[109,97,107,101]⟩
   ·rw[hm] at c0
    by_cases h1:300<x.c
    ·by_cases h2:x.c≤4096
     ·go_wp2
      go_ret
      rw[hG.out];unfold briefG;rw[if_pos ⟨hm,by omega,by omega⟩];exact⟨rfl,hE.out⟩
     ·go_wp2
      go_roundg r
      case measure=>omega
      case rel=>exact⟨k+1,_,by have:=HK.out;omega,by go_num,rfl,by have hg:=hG.out;unfold briefG at hg;rw[if_neg (fun q=>absurd q.2 (by omega))] at hg;exact hg,hE.out⟩
    ·go_wp2
     go_roundg r
     case measure=>omega
     case rel=>exact⟨k+1,_,by have:=HK.out;omega,by go_num,rfl,by have hg:=hG.out;unfold briefG at hg;rw[if_neg (fun q=>absurd q.2 (by omega))] at hg;exact hg,hE.out⟩
   ·have hm2:(x.nm.toList==[109,97,107,101])=false:=not_lit hm
    go_wp2
    go_roundg r
    case measure=>omega
    case rel=>exact⟨k+1,_,by have:=HK.out;omega,by go_num,rfl,by have hg:=hG.out;unfold briefG at hg;rw[if_neg (fun q=>hm q.1)] at hg;exact hg,hE.out⟩
  | zero =>
   obtain rfl:k=l.length:=by omega
   have hb:briefB l=(decide ((l.length:Int)≤120)&&decide (m≤3000)):=by have hg:=hG.out;rw[List.drop_length] at hg;exact hg
   have HBE:=Lib.hid hb
   clear hb hG
   have hltz:¬((l.length:Nat):Int)<(l.length:Int):=by omega
   clear hk
   by_cases h1:(l.length:Int)≤120
   ·by_cases h2:m≤3000
    ·go_wp2
     go_ret
     rw[HBE.out,decide_eq_true (show (l.length:Int)≤120 by omega),decide_eq_true (show m≤3000 by omega)];exact⟨rfl,hE.out⟩
    ·go_wp2
     go_ret
     rw[HBE.out,decide_eq_true (show (l.length:Int)≤120 by omega),decide_eq_false (show ¬m≤3000 by omega)];exact⟨rfl,hE.out⟩
   ·go_wp2
    go_ret
    rw[HBE.out,decide_eq_false (show ¬(l.length:Int)≤120 by omega)];exact⟨rfl,hE.out⟩
theorem OHeap.away {w w':World} {B hb b:Nat} {M:Mem} {S:Sls} {ten nx:Int} (h:OHeap w B hb b M S ten nx) {L:Nat→Prop} (k:Keep L w w') (hL:∀ i,L i→¬HL hb b S i):OHeap w' B hb b M S ten nx:=by
 have nhb:¬L hb:=fun q=>hL hb q (Or.inl rfl)
 refine⟨OMem.keptA h.mem (fun i hi ho=>k.block i hi fun q=>hL i q (Or.inr ho)),h.hB,?_,k.cell (p:=⟨hb,0,none⟩) nhb h.ptr,k.cell (p:=⟨hb,1,none⟩) nhb h.tn,k.cell (p:=⟨hb,2,none⟩) nhb h.nxt,h.ne⟩
 rw[k.block hb h.lt nhb];exact h.blk
def makeNm:ByteArray:=⟨#[109,97,107,101]⟩
theorem briefG_all:∀ (l:List ActP) (m r:Int),briefG m l=some r→∀ x∈l,¬(x.nm=makeNm∧300<x.c∧x.c≤4096)
 | [],_,_,_,x,hx=>by simp at hx
 | y::l,m,r,h,x,hx=>by
  unfold briefG at h
  split at h
  ·cases h
  ·rename_i hy
   rcases List.mem_cons.1 hx with rfl|q
   ·exact hy
   ·exact briefG_all l _ r h x q
theorem briefB_all {l:List ActP} (h:briefB l=true):∀ x∈l,¬(x.nm=makeNm∧300<x.c∧x.c≤4096):=by
 unfold briefB at h
 cases hg:briefG 0 l with
 | none=>rw[hg] at h;cases h
 | some m=>exact briefG_all l 0 m hg
theorem akOf_make {nm:ByteArray} (h:akOf nm=.make):nm=makeNm:=by
 refine Classical.byContradiction fun hn=>?_
 have hn':¬nm=⟨#[109,97,107,101]⟩:=hn
 unfold akOf at h
 by_cases a_int:nm=⟨#[105,110,116]⟩
 ·rw[if_pos a_int] at h;cases h
 rw[if_neg a_int] at h
 by_cases a_const:nm=⟨#[99,111,110,115,116]⟩
 ·rw[if_pos a_const] at h;cases h
 rw[if_neg a_const] at h
 by_cases a_text:nm=⟨#[116,101,120,116]⟩
 ·rw[if_pos a_text] at h;cases h
 rw[if_neg a_text] at h
 rw[if_neg hn'] at h
 by_cases a_copy:nm=⟨#[99,111,112,121]⟩
 ·rw[if_pos a_copy] at h;cases h
 rw[if_neg a_copy] at h
 by_cases a_get:nm=⟨#[103,101,116]⟩
 ·rw[if_pos a_get] at h;cases h
 rw[if_neg a_get] at h
 by_cases a_put:nm=⟨#[112,117,116]⟩
 ·rw[if_pos a_put] at h;cases h
 rw[if_neg a_put] at h
 by_cases a_minor:nm=⟨#[109,105,110,111,114]⟩
 ·rw[if_pos a_minor] at h;cases h
 rw[if_neg a_minor] at h
 by_cases a_major:nm=⟨#[109,97,106,111,114]⟩
 ·rw[if_pos a_major] at h;cases h
 rw[if_neg a_major] at h
 by_cases a_serial:nm=⟨#[115,101,114,105,97,108]⟩
 ·rw[if_pos a_serial] at h;cases h
 rw[if_neg a_serial] at h
 by_cases a_weak:nm=⟨#[119,101,97,107]⟩
 ·rw[if_pos a_weak] at h;cases h
 rw[if_neg a_weak] at h
 by_cases a_look:nm=⟨#[108,111,111,107]⟩
 ·rw[if_pos a_look] at h;cases h
 rw[if_neg a_look] at h
 cases h
def SmI (I:Ideal):Prop:=(I.P.map fun a=>1+szW I.V a).sum≤I.V.length
section
variable {I:Ideal} {nx:Int}
theorem sum_eq {P:List Nat} {f g:Nat→Nat} (h:∀ a∈P,f a=g a):(P.map f).sum=(P.map g).sum:=by rw[List.map_congr_left h]
theorem SmI.new (h:IWF I) (hs:SmI I) {kind:Int} {us:List Int} (hk:0≤kind∧kind≤255) (hz:us.length≤4096):SmI (I.new kind us):=by
 have hlen:(I.new kind us).V.length=I.V.length+1+us.length:=by unfold Ideal.new;simp;omega
 obtain⟨d1,d2,d3,d4,d5⟩:=headW_hd kind 0 0 (us.length:Int) hk (by omega) (by omega) ⟨by omega,by omega⟩
 have hsn:szW (I.new kind us).V I.V.length=us.length:=by unfold szW;rw[new_hd,d5];omega
 have he:((I.P.map fun a=>1+szW (I.new kind us).V a)).sum=(I.P.map fun a=>1+szW I.V a).sum:=sum_eq fun a ha=>by
  have:=h.dom a ha
  unfold szW;rw[new_old I kind us (by omega)]
 unfold SmI at hs ⊢
 rw[hlen]
 show ((I.P++[I.V.length]).map fun a=>1+szW (I.new kind us).V a).sum≤_
 rw[List.map_append,List.sum_append,he]
 simp only[List.map_cons,List.map_nil,List.sum_cons,List.sum_nil,hsn]
 omega
theorem SmI.put (h:IWF I) (hs:SmI I) {a k:Nat} (ha:a∈I.P) (hk:k<szW I.V a) (u:Int):SmI (I.put (a+1+k) u):=by
 have hlen:(I.put (a+1+k) u).V.length=I.V.length:=List.length_set
 have he:((I.P.map fun b=>1+szW (I.put (a+1+k) u).V b)).sum=(I.P.map fun b=>1+szW I.V b).sum:=sum_eq fun b hb=>by
  have e:wat (I.put (a+1+k) u).V b=wat I.V b:=wat_set _ _ _ _ fun e=>by
   by_cases q:b=a
   ·omega
   ·rcases Nat.lt_or_gt_of_ne q with q|q
    ·have:=h.apart b hb a ha q;omega
    ·have:=h.apart a ha b hb q;omega
  unfold szW;rw[e]
 unfold SmI at hs ⊢
 rw[hlen]
 show (I.P.map fun b=>1+szW (I.put (a+1+k) u).V b).sum≤_
 rw[he];exact hs
theorem SmI.doN (h:IWF I) (hs:SmI I) (hl:I.V.length≤900000000) (x:ActP) (is:Bool) (hb:¬(x.nm=makeNm∧300<x.c∧x.c≤4096)) (he:errI I (akOf x.nm) x=0):SmI (doN I nx (akOf x.nm) x is).1∧(doN I nx (akOf x.nm) x is).1.V.length≤I.V.length+301∧needI (akOf x.nm) x≤301:=by
 have rt:∀ {r:Int} {c:Int},(if rootI I r then c else 5)=0→rootI I r=true:=fun {r c} q=>by
  cases hr:rootI I r with
  | true=>rfl
  | false=>rw[hr] at q;cases q
 have hset:∀ {J:Ideal},SmI J→∀ (r:Nat) (u:Int),SmI (J.setR r u):=fun hJ r u=>hJ
 have hmk:=@akOf_make x.nm
 generalize akOf x.nm=ak at *
 cases ak with
 | int =>
  change SmI (I.int x.a.toNat x.n)∧(I.int x.a.toNat x.n).V.length≤_∧(if smallB x.n then (0:Int) else 2)≤_
  unfold Ideal.int
  cases hsm:smallB x.n with
  | true=>exact⟨hs,by show I.V.length≤_;omega,(show (0:Int)≤301 by decide)⟩
  | false=>exact⟨SmI.new h hs (by omega) (by simp),by show (I.V++_).length≤_;simp,by decide⟩
 | const=>exact⟨hs,by show I.V.length≤_;omega,(show (0:Int)≤301 by decide)⟩
 | text =>
  rw[eI_text] at he
  have hr:=rt he
  rw[hr,if_pos rfl] at he
  have hsz:x.s.size≤2000:=by split at he;assumption;cases he
  have hll:=strL_len x.s
  exact⟨SmI.new h hs (by omega) (by simp;omega),by show (I.V++_).length≤_;simp;omega,by rw[gI_text];omega⟩
 | make =>
  rw[eI_make] at he
  have hr:=rt he
  rw[hr,if_pos rfl] at he
  have hbb:¬(x.b<8∨255<x.b∨x.c<0∨4096<x.c):=by split at he;cases he;assumption
  have hc:x.c≤300:=by
   have:=hmk rfl
   exact Classical.byContradiction fun q=>hb ⟨this,by omega,by omega⟩
  exact⟨SmI.new h hs (by omega) (by simp;omega),by show (I.V++_).length≤_;simp;omega,by rw[gI_make];omega⟩
 | copy=>exact⟨hs,by show I.V.length≤_;omega,(show (0:Int)≤301 by decide)⟩
 | get=>exact⟨hs,by show I.V.length≤_;omega,(show (0:Int)≤301 by decide)⟩
 | put =>
  rw[eI_put] at he
  have hr:(rootI I x.a&&rootI I x.c)=true:=by split at he;assumption;cases he
  rw[hr,if_pos rfl] at he
  obtain⟨a,j,rn,ea,eb,hat,epl⟩:=field_at (Bool.and_eq_true_iff.1 hr).1 he
  have hm:=(WordOk.pts h (by omega) (h.root hat.lt) hat.pts).1
  change SmI (I.put (fplI I x.a x.b) (I.roots.getD x.c.toNat 0))∧(I.put (fplI I x.a x.b) (I.roots.getD x.c.toNat 0)).V.length≤_∧(0:Int)≤_
  rw[epl]
  exact⟨SmI.put h hs hm hat.k _,by show (I.V.set _ _).length≤_;rw[List.length_set];omega,(show (0:Int)≤301 by decide)⟩
 | minor=>exact⟨hs,by show I.V.length≤_;omega,(show (0:Int)≤301 by decide)⟩
 | major=>exact⟨hs,by show I.V.length≤_;omega,(show (0:Int)≤301 by decide)⟩
 | other=>exact⟨hs,by show I.V.length≤_;omega,(show (0:Int)≤301 by decide)⟩
 | serial =>
  change SmI (serD I nx x).1∧(serD I nx x).1.V.length≤_∧(0:Int)≤_
  unfold serD
  split
  ·exact⟨hs,by show I.V.length≤_;omega,(show (0:Int)≤301 by decide)⟩
  ·exact⟨hs,by show I.V.length≤_;omega,(show (0:Int)≤301 by decide)⟩
 | weak=>exact⟨hs,by show I.V.length≤_;omega,(show (0:Int)≤301 by decide)⟩
 | look=>exact⟨hs,by show I.V.length≤_;omega,(show (0:Int)≤301 by decide)⟩
end
theorem AI.mono {M:Mem} {nx old:Int} {R k j:Nat} (h:AI M nx old R k) (hk:k≤j):AI M nx old R j :=
 ⟨h.inv,h.old,h.roots,Nat.le_trans h.weak hk,Nat.le_trans h.ids hk,by have:=h.nx;omega⟩
structure Twin (w wr:World) (B ha a B2 hb b:Nat) (ten old:Int) (k K:Nat) (Ma:Mem) (Sa:Sls) (Mb:Mem) (Sb:Sls) (I:Ideal) (nx:Int):Prop where
 oa:OHeap wr B ha a Ma Sa ten nx
 ob:OHeap wr B2 hb b Mb Sb 2 nx
 apart:∀ i,HL ha a Sa i→¬HL hb b Sb i
 aa:AI Ma nx old 5 K
 ab:AI Mb nx 60000 5 K
 hA:Holds I Ma
 hB:Holds I Mb
 wf:IWF I
 sm:SmI I
 len:I.V.length≤301*k
 ext:Ext w wr
section
variable {w wr w1 w2:World} {B ha a B2 hb b:Nat} {ten old:Int} {k K:Nat} {Ma Mb M' M2:Mem} {Sa Sb S' S2:Sls} {I I' I2:Ideal} {nx nx' nx2 c n c2 n2:Int} {is is2:Bool} {x:ActP}
structure Half (w w1:World) (B ha a B2 hb b:Nat) (ten old:Int) (K:Nat) (M':Mem) (S':Sls) (nx':Int) (Mb:Mem) (Sb:Sls) (nx:Int):Prop where
 oa:OHeap w1 B ha a M' S' ten nx'
 ob:OHeap w1 B2 hb b Mb Sb 2 nx
 apart:∀ i,HL ha a S' i→¬HL hb b Sb i
 aa:AI M' nx' old 5 (K+1)
 ext:Ext w w1
theorem Twin.half (t:Twin w wr B ha a B2 hb b ten old k K Ma Sa Mb Sb I nx) (hz:w.heap.size≤B) (h1:OHeap w1 B ha a M' S' ten nx') (h2:HStep ha a wr Sa w1 S') (h3:AI M' nx' old 5 (K+1)):Half w w1 B ha a B2 hb b ten old K M' S' nx' Mb Sb nx :=
 ⟨h1,t.ob.away h2.keep t.apart,fun i hi hj=>by
  rcases h2.own i hi with q|q
  ·exact t.apart i q hj
  ·have:=(t.ob.own hj).2;omega,h3,HStep.extB t.ext hz t.oa h2⟩
theorem Half.at (h:Half w w1 B ha a B2 hb b ten old K M' S' nx' Mb Sb nx) (hx:Ext w1 w2):Half w w2 B ha a B2 hb b ten old K M' S' nx' Mb Sb nx :=
 ⟨h.oa.ext hx,h.ob.ext hx,h.apart,h.aa,h.ext.trans_ hx⟩
theorem Twin.at (t:Twin w wr B ha a B2 hb b ten old k K Ma Sa Mb Sb I nx) (hx:Ext wr w1):Twin w w1 B ha a B2 hb b ten old k K Ma Sa Mb Sb I nx :=
 ⟨t.oa.ext hx,t.ob.ext hx,t.apart,t.aa,t.ab,t.hA,t.hB,t.wf,t.sm,t.len,t.ext.trans_ hx⟩
theorem Twin.up (t:Twin w wr B ha a B2 hb b ten old k K Ma Sa Mb Sb I nx) {j J:Nat} (hk:k≤j) (hK:K≤J):Twin w wr B ha a B2 hb b ten old j J Ma Sa Mb Sb I nx :=
 ⟨t.oa,t.ob,t.apart,t.aa.mono hK,t.ab.mono hK,t.hA,t.hB,t.wf,t.sm,by have:=t.len;omega,t.ext⟩
theorem Twin.coll (t:Twin w wr B ha a B2 hb b ten old k K Ma Sa Mb Sb I nx) (hz:w.heap.size≤B) (h1:OHeap w1 B ha a M' S' ten nx) (h2:HStep ha a wr Sa w1 S') (h3:AI M' nx old 5 (K+1)) (h4:Holds I M'):Twin w w1 B ha a B2 hb b ten old k (K+1) M' S' Mb Sb I nx:=by
 have h:=t.half hz h1 h2 h3
 exact⟨h.oa,h.ob,h.apart,h3,t.ab.mono (by omega),h4,t.hB,t.wf,t.sm,t.len,h.ext⟩
theorem Half.both (h:Half w w1 B ha a B2 hb b ten old K M' S' nx' Mb Sb nx) (t:Twin w wr B ha a B2 hb b ten old k K Ma Sa Mb Sb I nx) (hz:w.heap.size≤B) (hk:k≤120)
  (q1:AOut I nx old Ma (akOf x.nm) x c n is I' nx' M') (hc:c≠6) (hak:akOf x.nm≠.look) (hb0:¬(x.nm=makeNm∧300<x.c∧x.c≤4096)) (hxn:I64 x.n)
  (hz2:w.heap.size≤B2) (h1:OHeap w2 B2 hb b M2 S2 2 nx2) (h2:HStep hb b w1 Sb w2 S2) (h3:AI M2 nx2 60000 5 (K+1)) (q2:AOut I nx 60000 Mb (akOf x.nm) x c2 n2 is2 I2 nx2 M2) :
  n2=n∧(c=0↔c2=0)∧is=false∧is2=false∧∃ I3 nx3,Twin w w2 B ha a B2 hb b ten old (k+1) (K+1) M' S' M2 S2 I3 nx3:=by
 have i1:=q1.plain hak
 have i2:=q2.plain hak
 have hlen:=t.len
 have hlive:liveI I≤I.V.length:=by
  obtain⟨D,f,hR⟩:=t.hB
  exact Nat.le_trans (hR.live_le (chk_zero t.ab.inv.chk).1) t.sm
 have oa2:OHeap w2 B ha a M' S' ten nx':=h.oa.away h2.keep fun i hi hj=>h.apart i hj hi
 have ap2:∀ i,HL ha a S' i→¬HL hb b S2 i:=fun i hi hj=>by
  rcases h2.own i hj with q|q
  ·exact h.apart i hi q
  ·have:=(h.oa.own hi).2;omega
 have ex2:=HStep.extB h.ext hz2 h.ob h2
 have nofull:¬(c2=6∧errI I (akOf x.nm) x=0∧(60000:Int)<(liveI I:Int)+needI (akOf x.nm) x):=fun ⟨_,q,r⟩=>by
  obtain⟨-,-,g3⟩:=SmI.doN (nx:=nx) t.wf t.sm (by omega) x false hb0 q
  omega
 rcases q1.res with⟨r1,r2,r3,r4⟩|⟨r1,r2,r3,r4,r5,r6⟩
 ·rcases q2.res with⟨s1,s2,s3,s4⟩|⟨s1,s2,s3,s4,s5,s6⟩
  ·rw[i1] at r4
   rw[i2] at s4
   have e:=r4.trans s4.symm
   obtain⟨e1,e2⟩:=Prod.mk.inj e
   obtain⟨g1,g2,-⟩:=SmI.doN (nx:=nx) t.wf t.sm (by omega) x false hb0 r2
   obtain⟨g3,g4,g5⟩:=IWF.doN (nx:=nx) t.wf (by omega) (akOf x.nm) x hxn false r2
   rw[←r4] at g1 g2 g3
   subst e1 e2
   refine⟨by rw[r3,s3],by simp[r1,s1],i1,i2,I',nx',oa2,h1,ap2,h.aa,h3,q1.holds,q2.holds,g3,g1,?_,ex2⟩
   have g2':I'.V.length≤I.V.length+301:=g2
   omega
  ·exfalso
   rcases s6 with s6|⟨s6,s7⟩
   ·exact nofull s6
   ·omega
 ·rcases q2.res with⟨s1,s2,s3,s4⟩|⟨s1,s2,s3,s4,s5,s6⟩
  ·exfalso
   rcases r6 with⟨r6,-⟩|⟨r6,r7⟩
   ·exact hc r6
   ·omega
  ·subst r4 r5 s4 s5
   exact⟨by rw[r2,s2],by simp[r1,s1],i1,i2,_,_,oa2,h1,ap2,h.aa,h3,q1.holds,q2.holds,t.wf,t.sm,by omega,ex2⟩
theorem Twin.text (t:Twin w wr B ha a B2 hb b ten old k K Ma Sa Mb Sb I nx):showS Ma=showI I∧showS Mb=showI I∧(∀ x∈reachP Ma,RawOk Ma.W x)∧∀ x∈reachP Mb,RawOk Mb.W x:=by
 obtain⟨h1,h2⟩:=t.hA.show t.aa.inv t.wf
 obtain⟨h3,h4⟩:=t.hB.show t.ab.inv t.wf
 exact⟨h1,h3,h2,h4⟩
end
end Go.Proofs.YtelhoppfidibiaaGreatDoor
