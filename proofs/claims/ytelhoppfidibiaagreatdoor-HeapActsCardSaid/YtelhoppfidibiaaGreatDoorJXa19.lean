/- The walk of the document's come. -/
import Derived.Test.YtelhoppfidibiaaGreatDoorJXa18
import Derived.Deep.Cut
import Derived.Test.YtelhoppfidibiaaGreatDoorJXa15
import Derived.StillTailTactics
set_option linter.unusedSimpArgs false
set_option linter.unusedVariables false
namespace Go.Proofs.YtelhoppfidibiaaGreatDoor
open Go.RowKit
open List renaming contains_iff_mem→Za,getElem?_append_left→Zb,getElem?_eq_getElem→Zc,getElem?_eq_some_iff→Zd,mem_cons→Ze,mergeSort_perm→Zf
theorem B7v {M:A7} (hs:G2 M):(D8 M).length≤M.W.length:=by
 obtain⟨hb,b0,b1⟩:=hs.base;have s1:=hs.h1;have s2:=hs.t2;have s3:=hs.p2;have s4:=hs.w;have s5:=hs.t1;have s6:=hs.p1;unfold D8;rw[List.length_append];have l1:=A9n M.W (M.base+M.top.toNat-M.base) M.base (M.base+M.top.toNat);have l2:=A9n M.W ((2*M.half).toNat+M.oldTop.toNat-(2*M.half).toNat) (2*M.half).toNat ((2*M.half).toNat+M.oldTop.toNat);have e1:(partN M).1.length≤M.base+M.top.toNat-M.base:=l1;have e2:(partO M).1.length≤(2*M.half).toNat+M.oldTop.toNat-(2*M.half).toNat:=l2;omega
theorem D8a (W:List Int) (out:List Ob) (us:List Int) (k:Nat) (hk:k<us.length):M8 W out (us.take (k+1))=T5 W (M8 W out (us.take k)) (us.getD k 0):=by
 unfold M8;rw[List.take_add_one,Zc hk,List.foldl_append,List.getD_eq_getElem?_getD,Zc hk];rfl
theorem D0v (W:List Int) (f k:Nat) (out:List Ob) (h:out.length≤k):reachG W f k out=out:=by
 cases f with
 | zero=>rfl
 | succ f=>unfold reachG;rw[List.getElem?_eq_none h]
def InO (out:List Ob) (u:Int):Prop:=0≤B6 u→F8 (G9 out) (B6 u)=true
theorem B6v {out t:List Ob} {u:Int} (h:InO out u):InO (out++t) u:=fun q=>by
 have:=h q;unfold F8 G9 at this ⊢;rw[Za] at this ⊢;rw[List.map_append];exact List.mem_append_left _ this
theorem B1y {out:List Ob} {p:Int}:F8 (G9 out) p=true↔∃ o∈out,(o.a:Int)=p:=by
 unfold F8 G9;rw[Za,List.mem_map]
theorem D7x (W:List Int) (out:List Ob) (u:Int):InO (T5 W out u) u:=fun q=>by
 unfold T5
 split
 ·refine B1y.2 ⟨D4 W (B6 u).toNat,by simp,?_⟩;show (((B6 u).toNat:Nat):Int)=_;omega
 ·rename_i h
  cases e:F8 (G9 out) (B6 u) with
  | true=>rfl
  | false=>exact absurd ⟨q,e⟩ h
theorem B6b (W:List Int):∀ (us:List Int) (out:List Ob),∀ u∈us,InO (M8 W out us) u
 | [],out,u,h=>by simp at h
 | v::us,out,u,h=>by
  have e:M8 W out (v::us)=M8 W (T5 W out v) us:=rfl;rw[e];rcases Ze.1 h with rfl|h
  ·obtain⟨t,ht⟩:=B9x W us (T5 W out u);rw[ht];exact B6v (D7x W out u)
  ·exact B6b W us _ u h
def B1i (W:List Int) (out:List Ob) (o:Ob):Prop:=D2 (B3 o.w)=true∨∀ u∈K8 W o,InO out u
theorem F5q {W:List Int} {out t:List Ob} {o:Ob} (h:B1i W out o):B1i W (out++t) o:=by
 rcases h with h|h
 ·exact Or.inl h
 ·exact Or.inr fun u hu=>B6v (h u hu)
theorem F6c (W:List Int) (out:List Ob) (o:Ob):B1i W (V7 W out o) o:=by
 unfold V7
 split
 ·rename_i h;exact Or.inl h
 ·exact Or.inr fun u hu=>B6b W _ _ u hu
theorem B4t (W:List Int):∀ (f k:Nat) (out:List Ob),∃ t,reachG W f k out=out++t
 | 0,_,out=>⟨[],by simp[reachG]⟩
 | f+1,k,out=>by
  unfold reachG
  cases e:out[k]? with
  | none=>exact⟨[],by simp⟩
  | some o =>
   obtain⟨t,ht⟩:=B8i W out o;obtain⟨s,hs⟩:=B4t W f (k+1) (V7 W out o);exact⟨t++s,by show reachG W f (k+1) (V7 W out o)=_;rw[hs,ht,List.append_assoc]⟩
theorem C2i (W:List Int):∀ (f k:Nat) (out:List Ob),(∀ j,j<k→∀ o,out[j]?=some o→B1i W out o)→(reachG W f k out).length≤f+k→∀ o∈reachG W f k out,B1i W (reachG W f k out) o
 | 0,k,out,hc,hl,o,ho=>by
  have hl':out.length≤0+k:=hl;have ho':o∈out:=ho;obtain⟨j,hj,e⟩:=List.getElem_of_mem ho';exact hc j (by omega) o (by rw[Zc hj,e])
 | f+1,k,out,hc,hl,o,ho=>by
  unfold reachG at hl ho ⊢
  cases e:out[k]? with
  | none =>
   rw[e] at ho;simp only at ho ⊢;obtain⟨j,hj,e2⟩:=List.getElem_of_mem ho;have:out.length≤k:=by
    rcases Nat.lt_or_ge k out.length with q|q
    ·rw[Zc q] at e;cases e
    ·exact q
   exact hc j (by omega) o (by rw[Zc hj,e2])
  | some x =>
   rw[e] at ho hl;simp only at ho hl ⊢;refine C2i W f (k+1) _ (fun j hj y hy=>?_) (by omega) o ho;by_cases q:j=k
   ·subst q;obtain⟨t,ht⟩:=B8i W out x;have:y=x:=by
     have hlt:=(Zd.1 e).1;rw[ht,Zb hlt,e] at hy;injection hy with hy;exact hy.symm
    subst this;exact F6c W out y
   ·obtain⟨t,ht⟩:=B8i W out x;have hk:=(Zd.1 e).1;rw[ht] at hy ⊢;rw[Zb (by omega)] at hy;exact F5q (hc j (by omega) y hy)
section
variable {M:A7}
theorem B8x {M:A7} (hg:goodB M=true) {l:List Ob} (h:Y5 M l):l.length≤M.W.length:=by
 have h1:=h.len;have h2:=B7v (K5 hg).1;have hs:=(K5 hg).1;have hw:=hs.w;have a1:=hs.h1;have a2:=hs.o1;have a3:=hs.t2;have a4:=hs.p2;omega
theorem F0m (hg:goodB M=true):∀ o∈F5 M,B1i M.W (F5 M) o:=by
 refine C2i M.W _ 0 _ (fun j hj=>by omega) ?_;have:=B8x hg (A7c hg);exact this
theorem F0l (M:A7):∀ u∈M.roots,InO (F5 M) u:=fun u hu=>by
 obtain⟨t,ht⟩:=B4t M.W M.W.length 0 (M8 M.W [] M.roots);unfold F5;rw[ht];exact B6v (B6b M.W _ _ u hu)
end
def ltM (hb x y:Nat):Bool:=if decide (hb≤x)=decide (hb≤y) then decide (x<y) else decide (hb≤x)
def leM (hb x y:Nat):Bool:=!ltM hb y x
theorem B7e (hb x y:Nat):leM hb x y=true↔(hb≤x∧y<hb)∨((hb≤x↔hb≤y)∧x≤y):=by
 unfold leM ltM;by_cases h1:hb≤x<;>by_cases h2:hb≤y<;>simp[h1,h2]<;>omega
def K3 (M:A7):List Nat:=((F5 M).map (·.a)).mergeSort (leM (D1 M))
theorem B4o (M:A7) (a:Nat):a∈K3 M↔a∈(F5 M).map (·.a):=(Zf _ _).mem_iff
theorem B7w {M:A7} (hg:goodB M=true):(K3 M).Nodup:=(Zf _ _).nodup_iff.2 (A7c hg).nodup
theorem E9g (M:A7):(K3 M).length=(F5 M).length:=by
 show (List.mergeSort _ _).length=_;rw[(Zf _ _).length_eq,List.length_map]
def B5l (hb x y:Nat):Prop:=(hb≤x∧y<hb)∨((hb≤x↔hb≤y)∧x<y)
theorem E9h {M:A7} (hg:goodB M=true):(K3 M).Pairwise (B5l (D1 M)):=by
 have h1:(K3 M).Pairwise fun a b=>leM (D1 M) a b=true:=List.pairwise_mergeSort (fun a b c=>by simp only[B7e];omega) (fun a b=>by
  rw[Bool.or_eq_true,B7e,B7e];omega) _
 have h2:=B7w hg;unfold List.Nodup at h2;refine (h1.and h2).imp fun hab=>?_
 obtain⟨q1,q2⟩:=hab;rw[B7e] at q1;unfold B5l;omega
def Q4 (W:List Int):Nat→List Nat→List (Nat × Nat)
 | _,[]=>[]
 | t,a::l=>(a,t)::Q4 W (t+1+A9 W a) l
def A3h (W:List Int):Nat→List Nat→Nat
 | t,[]=>t
 | t,a::l=>A3h W (t+1+A9 W a) l
theorem A7j (W:List Int):∀ (l:List Nat) (t:Nat),(Q4 W t l).map (·.1)=l
 | [],_=>rfl
 | a::l,t=>by rw[Q4,List.map_cons,A7j W l]
theorem B3u (W:List Int):∀ (l:List Nat) (t:Nat),A3h W t l=t+(l.map fun a=>1+A9 W a).sum
 | [],t=>rfl
 | a::l,t=>by rw[A3h,B3u W l,List.map_cons,List.sum_cons];omega
theorem C3b (W:List Int):∀ (l k:List Nat) (t:Nat),Q4 W t (l++k)=Q4 W t l++Q4 W (A3h W t l) k
 | [],k,t=>rfl
 | a::l,k,t=>by rw[List.cons_append,Q4,C3b W l k,Q4,A3h,List.cons_append]
theorem B8l (W:List Int):∀ (l:List Nat) (t:Nat),∀ p∈Q4 W t l,t≤p.2∧p.2+1+A9 W p.1≤A3h W t l
 | [],_,p,h=>by simp[Q4] at h
 | a::l,t,p,h=>by
  rw[Q4] at h;rw[A3h];have he:=B3u W l (t+1+A9 W a);rcases Ze.1 h with rfl|h
  ·refine⟨Nat.le_refl _,?_⟩;show t+1+A9 W a≤_;omega
  ·obtain⟨q1,q2⟩:=B8l W l _ p h;exact⟨by omega,q2⟩
theorem D2m (W:List Int):∀ (l:List Nat) (t:Nat),(Q4 W t l).Pairwise fun p q=>p.2+1+A9 W p.1≤q.2
 | [],_=>List.Pairwise.nil
 | a::l,t=>by
  rw[Q4];refine List.Pairwise.cons (fun q hq=>?_) (D2m W l _);exact (B8l W l _ q hq).1
theorem D2k (W:List Int):∀ (l:List Nat) (t hb:Nat),l.Pairwise (B5l hb)→(∀ a∈l,hb≤a→t≤a)→(∀ a∈l,∀ b∈l,hb≤a→a<b→a+1+A9 W a≤b)→∀ p∈Q4 W t l,hb≤p.1→p.2≤p.1
 | [],_,_,_,_,_,p,h,_=>by simp[Q4] at h
 | a::l,t,hb,hp,ht,hd,p,h,hq=>by
  rw[Q4] at h;rw[List.pairwise_cons] at hp;rcases Ze.1 h with rfl|h
  ·exact ht a (by simp) hq
  ·refine D2k W l (t+1+A9 W a) hb hp.2 (fun b hb1 hb2=>?_) (fun b hb1 c hc=>hd b (by simp[hb1]) c (by simp[hc])) p h hq;have h1:=hp.1 b hb1;unfold B5l at h1;have h2:hb≤a:=by omega
   have h3:=ht a (by simp) h2;have h4:=hd a (by simp) b (by simp[hb1]) h2 (by omega);omega
def N5 (M:A7):List (Nat × Nat):=Q4 M.W (D1 M) (K3 M)
def B1r (M:A7):Nat:=A3h M.W (D1 M) (K3 M)
def A6h (l:List (Nat × Nat)) (a:Nat):Option Nat:=(l.find? fun p=>a==p.1).map (·.2)
theorem C1g {l:List (Nat × Nat)} {a t:Nat} (h:A6h l a=some t):(a,t)∈l:=by
 unfold A6h at h
 cases hf:l.find? (fun p=>a==p.1) with
 | none=>rw[hf] at h;cases h
 | some q =>
  rw[hf] at h;have h1:=List.find?_some hf;have h2:=List.mem_of_find?_eq_some hf;have e:q.2=t:=by simpa using h
  have e1:a=q.1:=by simpa using h1
  rw[e1,←e];exact h2
theorem C1h {l:List (Nat × Nat)} {a:Nat} (h:a∈l.map (·.1)):∃ t,A6h l a=some t:=by
 unfold A6h
 cases hf:l.find? (fun p=>a==p.1) with
 | none =>
  obtain⟨p,hp,e⟩:=List.mem_map.1 h;have:=List.find?_eq_none.1 hf p hp;rw[←e] at this;simp at this
 | some q=>exact⟨q.2,rfl⟩
theorem C8a {l:List (Nat × Nat)} (hn:(l.map (·.1)).Nodup) {a t:Nat} (h:(a,t)∈l):A6h l a=some t:=by
 obtain⟨s,hs⟩:=C1h (l:=l) (a:=a) (List.mem_map_of_mem (f:=(·.1)) h);have hm:=C1g hs;have:=B7r hn hm h rfl;injection this with _ e;rw[hs,e]
def N6 (M:A7) (a:Nat):Nat:=(A6h (N5 M) a).getD 0
def Z7 (M:A7) (a:Nat):Prop:=a∈(F5 M).map (·.a)
theorem A7h {M:A7} {a:Nat} (h:Z7 M a):(a,N6 M a)∈N5 M:=by
 obtain⟨t,ht⟩:=C1h (l:=N5 M) (a:=a) (by unfold N5;rw[A7j];exact (B4o M a).2 h);unfold N6;rw[ht];exact C1g ht
theorem B2p {M:A7} {p:Nat × Nat} (h:p∈N5 M):Z7 M p.1:=by
 have:p.1∈(N5 M).map (·.1):=List.mem_map_of_mem (f:=(·.1)) h;unfold N5 at this;rw[A7j] at this;exact (B4o M _).1 this
theorem C3a {M:A7} (hg:goodB M=true) {p:Nat × Nat} (h:p∈N5 M):N6 M p.1=p.2:=by
 unfold N6;rw[C8a (by unfold N5;rw[A7j];exact B7w hg) (show (p.1,p.2)∈N5 M from h)];rfl
def Q0 (M:A7) (u:Int):Int × Bool :=
 if C7 u≠0∨u=0 then (u,true) else if F8 (G9 (F5 M)) (C9 u)=true then (D3 (N6 M (C9 u).toNat),true) else (2,false)
end Go.Proofs.YtelhoppfidibiaaGreatDoor
