/- The walk of the document's CheckOf, where lengths, headers, roots or weak words are wrong. -/
import Derived.Test.YtelhoppfidibiaaGreatDoorJTa06
import Derived.Test.YtelhoppfidibiaaGreatDoorJTa20
import Derived.Deep.RegionHeld3
import Derived.Test.YtelhoppfidibiaaGreatDoorJTa08
import Derived.Test.YtelhoppfidibiaaGreatDoorJTa07
import Derived.Test.YtelhoppfidibiaaGreatDoorJTa15
import Derived.Handy
import Derived.Test.YtelhoppfidibiaaGreatDoorJTa14
set_option linter.unusedSimpArgs false
set_option linter.unusedVariables false
namespace Go.Proofs.YtelhoppfidibiaaGreatDoor
open Go.RowKit
def comeP (W:List Int) (out:List Ob) (u:Int):List Ob:=if 0≤ptsW u∧inSt (ats out) (ptsW u)=false then out++[obW W (ptsW u).toNat] else out
def comesP (W:List Int) (out:List Ob) (us:List Int):List Ob:=us.foldl (comeP W) out
def fldsW (W:List Int) (o:Ob):List Int:=(List.range o.n).map fun i=>wat W (o.a+1+i)
def stepP (W:List Int) (out:List Ob) (o:Ob):List Ob:=if rawB (hKind o.w) then out else comesP W out (fldsW W o)
def reachG (W:List Int):Nat→Nat→List Ob→List Ob
 | 0,_,out=>out
 | f+1,k,out =>
  match out[k]? with
  | none=>out
  | some o=>reachG W f (k+1) (stepP W out o)
def reachP (M:Mem):List Ob:=reachG M.W M.W.length 0 (comesP M.W [] M.roots)
structure Gath (M:Mem) (out:List Ob):Prop where
 nodup:(out.map (·.a)).Nodup
 mem:∀ o∈out,o∈objsAll M
theorem Gath.nil (M:Mem):Gath M []:=⟨by simp,fun o h=>by simp at h⟩
theorem pts_ob {M:Mem} {u:Int} (hf:fldB (startsM M) u=true) (h:0≤ptsW u):∃ x∈objsAll M,(x.a:Int)=ptsW u∧obW M.W (ptsW u).toNat=x:=by
 unfold ptsW at h ⊢
 split at h
 ·rename_i hc
  rw[if_pos hc]
  have hin:placeW u∈startsM M:=by
   unfold fldB at hf
   rw[if_pos hc.1] at hf
   simp only[Bool.or_eq_true,beq_iff_eq] at hf
   rcases hf with q|q
   ·exact absurd q hc.2.1
   ·exact List.contains_iff_mem.1 q
  obtain⟨x,hx,e⟩:=List.mem_map.1 hin
  refine⟨x,hx,e,?_⟩
  have hw:x.w=wat M.W x.a:=by
   rcases obM_of hx with q|q
   ·exact q.w
   ·exact q.w
  rw[←e,Int.toNat_natCast]
  unfold obW
  rw[←hw]
 ·omega
theorem Gath.come {M:Mem} {out:List Ob} (h:Gath M out) {u:Int} (hf:fldB (startsM M) u=true):Gath M (comeP M.W out u):=by
 unfold comeP
 split
 ·rename_i hc
  obtain⟨x,hx,e1,e2⟩:=pts_ob hf hc.1
  rw[e2]
  refine⟨?_,fun o ho=>?_⟩
  ·rw[List.map_append,List.nodup_append]
   refine⟨h.nodup,by simp,fun a ha b hb e=>?_⟩
   simp only[List.map_cons,List.map_nil,List.mem_singleton] at hb
   subst hb e
   obtain⟨o,ho,e3⟩:=List.mem_map.1 ha
   have:inSt (ats out) (ptsW u)=true:=List.contains_iff_mem.2 (List.mem_map.2 ⟨o,ho,by rw[e3];exact e1⟩)
   rw[hc.2] at this;cases this
  ·rcases List.mem_append.1 ho with q|q
   ·exact h.mem o q
   ·rw[List.mem_singleton.1 q];exact hx
 ·exact h
theorem Gath.comes {M:Mem}:∀ (us:List Int) (out:List Ob),Gath M out→(∀ u∈us,fldB (startsM M) u=true)→Gath M (comesP M.W out us)
 | [],out,h,_=>h
 | u::us,out,h,hf=>Gath.comes us _ (h.come (hf u (by simp))) fun v hv=>hf v (by simp[hv])
theorem Gath.step {M:Mem} (hfl:(objsAll M).all (okFld M (startsM M))=true) {out:List Ob} (h:Gath M out) {o:Ob} (ho:o∈objsAll M):Gath M (stepP M.W out o):=by
 unfold stepP
 split
 ·exact h
 ·rename_i hr
  refine Gath.comes _ _ h fun v hv=>?_
  obtain⟨k,hk,rfl⟩:=List.mem_map.1 hv
  exact fld_ok hfl ho (by simpa using hr) k (List.mem_range.1 hk)
theorem Gath.len {M:Mem} {out:List Ob} (h:Gath M out):out.length≤(objsAll M).length:=by
 have h1:=len_sub (out.map (·.a)) ((objsAll M).map (·.a)) h.nodup fun k hk=>by
  obtain⟨o,ho,rfl⟩:=List.mem_map.1 hk
  exact List.mem_map_of_mem (f:=(·.a)) (h.mem o ho)
 simpa using h1
theorem comeP_app (W:List Int) (out:List Ob) (u:Int):∃ t,comeP W out u=out++t:=by
 unfold comeP
 split
 ·exact⟨_,rfl⟩
 ·exact⟨[],by simp⟩
theorem comesP_app (W:List Int):∀ (us:List Int) (out:List Ob),∃ t,comesP W out us=out++t
 | [],out=>⟨[],by simp[comesP]⟩
 | u::us,out=>by
  obtain⟨t,ht⟩:=comeP_app W out u
  obtain⟨s,hs⟩:=comesP_app W us (comeP W out u)
  exact⟨t++s,by unfold comesP at hs ⊢;rw[List.foldl_cons,hs,ht,List.append_assoc]⟩
theorem stepP_app (W:List Int) (out:List Ob) (o:Ob):∃ t,stepP W out o=out++t:=by
 unfold stepP
 split
 ·exact⟨[],by simp⟩
 ·exact comesP_app W _ _
theorem reachG_gath {M:Mem} (hfl:(objsAll M).all (okFld M (startsM M))=true):∀ (f k:Nat) (out:List Ob),Gath M out→Gath M (reachG M.W f k out)
 | 0,_,out,h=>h
 | f+1,k,out,h=>by
  unfold reachG
  cases e:out[k]? with
  | none=>exact h
  | some o=>exact reachG_gath hfl f (k+1) _ (h.step hfl (h.mem o (List.mem_of_getElem? e)))
theorem reachP_gath {M:Mem} (hg:goodB M=true):Gath M (reachP M):=by
 obtain⟨hs,hob,hr,hw,hfo,hid⟩:=good_parts hg
 refine reachG_gath hfo _ _ _ (Gath.comes _ _ (Gath.nil M) fun u hu=>?_)
 unfold fieldsB at hr
 rw[List.all_eq_true] at hr
 exact hr u hu
def Cor (f:Nat→Nat) (Dom:Nat→Prop) (u v:Int):Prop:=(ptsW u<0∧v=u)∨∃ a:Nat,ptsW u=(a:Int)∧Dom a∧ptsW v=(f a:Int)∧kindW u=0∧u≠0∧kindW v=0∧v≠0
structure Morph (V W:List Int) (Dom:Nat→Prop) (f:Nat→Nat):Prop where
 inj:∀ a b,Dom a→Dom b→f a=f b→a=b
 kind:∀ a,Dom a→hKind (wat W (f a))=hKind (wat V a)
 size:∀ a,Dom a→hSize (wat W (f a))=hSize (wat V a)
 fld:∀ a,Dom a→rawB (hKind (wat V a))=false→∀ k,k<szW V a→Cor f Dom (wat V (a+1+k)) (wat W (f a+1+k))
 raw:∀ a,Dom a→rawB (hKind (wat V a))=true→∀ k,k<szW V a→wat W (f a+1+k)=wat V (a+1+k)
section
variable {V W:List Int} {Dom:Nat→Prop} {f:Nat→Nat}
def InD (V:List Int) (Dom:Nat→Prop) (out:List Ob):Prop:=∀ o∈out,Dom o.a∧o=obW V o.a
theorem inD_st (hm:Morph V W Dom f) {out:List Ob} (h:InD V Dom out) {a:Nat} (ha:Dom a):inSt (ats (out.map fun o=>obW W (f o.a))) (f a:Int)=inSt (ats out) (a:Int):=by
 rw[Bool.eq_iff_iff]
 unfold inSt ats
 rw[List.contains_iff_mem,List.contains_iff_mem,List.map_map]
 constructor
 ·intro q
  obtain⟨o,ho,e⟩:=List.mem_map.1 q
  have e':(f o.a:Int)=(f a:Int):=e
  exact List.mem_map.2 ⟨o,ho,by rw[hm.inj o.a a (h o ho).1 ha (by omega)]⟩
 ·intro q
  obtain⟨o,ho,e⟩:=List.mem_map.1 q
  refine List.mem_map.2 ⟨o,ho,?_⟩
  show (f o.a:Int)=_
  rw[show o.a=a by omega]
theorem come_sim (hm:Morph V W Dom f) {out:List Ob} (h:InD V Dom out) {u v:Int} (hc:Cor f Dom u v):comeP W (out.map fun o=>obW W (f o.a)) v=(comeP V out u).map (fun o=>obW W (f o.a))∧InD V Dom (comeP V out u):=by
 unfold comeP
 rcases hc with⟨h1,h2⟩|⟨a,h1,h2,h3,_⟩
 ·subst h2
  rw[if_neg (by omega),if_neg (by omega)]
  exact⟨rfl,h⟩
 ·rw[h1,h3,inD_st hm h h2]
  by_cases q:inSt (ats out) (a:Int)=false
  ·rw[if_pos ⟨by omega,q⟩,if_pos ⟨by omega,q⟩,List.map_append]
   refine⟨rfl,fun o ho=>?_⟩
   rcases List.mem_append.1 ho with ho|ho
   ·exact h o ho
   ·rw[List.mem_singleton.1 ho];exact⟨h2,rfl⟩
  ·rw[if_neg (fun e=>q e.2),if_neg (fun e=>q e.2)]
   exact⟨rfl,h⟩
theorem comes_sim (hm:Morph V W Dom f):∀ (us vs:List Int) (out:List Ob),InD V Dom out→us.length=vs.length→(∀ i,i<us.length→Cor f Dom (us.getD i 0) (vs.getD i 0)) →
  comesP W (out.map fun o=>obW W (f o.a)) vs=(comesP V out us).map (fun o=>obW W (f o.a))∧InD V Dom (comesP V out us)
 | [],[],out,h,_,_=>⟨rfl,h⟩
 | u::us,v::vs,out,h,hl,hc=>by
  obtain⟨e1,e2⟩:=come_sim (u:=u) (v:=v) hm h (hc 0 (by simp))
  obtain⟨e3,e4⟩:=comes_sim hm us vs _ e2 (by simpa using hl) fun i hi=>by simpa using hc (i+1) (by simpa using hi)
  have e1':comeP W (out.map fun o=>obW W (f o.a)) v=(comeP V out u).map (fun o=>obW W (f o.a)):=e1
  unfold comesP at e3 e4 ⊢
  rw[List.foldl_cons,List.foldl_cons,e1',e3]
  exact⟨rfl,e4⟩
theorem step_sim (hm:Morph V W Dom f) {out:List Ob} (h:InD V Dom out) {o:Ob} (ho:o∈out):stepP W (out.map fun o=>obW W (f o.a)) (obW W (f o.a))=(stepP V out o).map (fun o=>obW W (f o.a))∧InD V Dom (stepP V out o):=by
 obtain⟨hd,e⟩:=h o ho
 have ew:o.w=wat V o.a:=by rw[e];rfl
 unfold stepP
 have hk:hKind (obW W (f o.a)).w=hKind o.w:=by rw[ew];exact hm.kind _ hd
 rw[hk]
 cases hr:rawB (hKind o.w) with
 | true=>exact⟨rfl,h⟩
 | false =>
  simp only[Bool.false_eq_true,if_false]
  have hn:(obW W (f o.a)).n=o.n:=by unfold Ob.n;rw[ew];show (hSize (wat W (f o.a))).toNat=_;rw[hm.size _ hd]
  refine comes_sim hm _ _ _ h (by simp[fldsW,hn]) fun i hi=>?_
  have hi':i<o.n:=by simpa [fldsW] using hi
  have g1:(fldsW V o).getD i 0=wat V (o.a+1+i):=by simp[fldsW,List.getD_eq_getElem?_getD,hi']
  have g2:(fldsW W (obW W (f o.a))).getD i 0=wat W (f o.a+1+i):=by
   have hi2:i<(obW W (f o.a)).n:=by rw[hn];exact hi'
   simp[fldsW,List.getD_eq_getElem?_getD,hi2];rfl
  rw[g1,g2]
  refine hm.fld o.a hd (by rw[←ew];exact hr) i ?_
  unfold szW
  rw[←ew];exact hi'
theorem reachG_sim (hm:Morph V W Dom f):∀ (n k:Nat) (out:List Ob),InD V Dom out→reachG W n k (out.map fun o=>obW W (f o.a))=(reachG V n k out).map (fun o=>obW W (f o.a))∧InD V Dom (reachG V n k out)
 | 0,_,out,h=>⟨rfl,h⟩
 | n+1,k,out,h=>by
  unfold reachG
  rw[List.getElem?_map]
  cases e:out[k]? with
  | none=>exact⟨rfl,h⟩
  | some o =>
   obtain⟨s1,s2⟩:=step_sim hm h (List.mem_of_getElem? e)
   simp only[Option.map_some]
   rw[s1]
   exact reachG_sim hm n (k+1) _ s2
end
theorem reach_sim {M N:Mem} {Dom:Nat→Prop} {f:Nat→Nat} (hm:Morph M.W N.W Dom f) (hl:N.W.length=M.W.length) (hr:M.roots.length=N.roots.length) (hc:∀ i,i<M.roots.length→Cor f Dom (M.roots.getD i 0) (N.roots.getD i 0)) :
  reachP N=(reachP M).map (fun o=>obW N.W (f o.a))∧InD M.W Dom (reachP M):=by
 obtain⟨s1,s2⟩:=comes_sim hm M.roots N.roots [] (fun o ho=>by simp at ho) hr hc
 have s1':comesP N.W [] N.roots=(comesP M.W [] M.roots).map (fun o=>obW N.W (f o.a)):=s1
 unfold reachP
 rw[s1',hl]
 exact reachG_sim hm _ 0 _ s2
end Go.Proofs.YtelhoppfidibiaaGreatDoor
