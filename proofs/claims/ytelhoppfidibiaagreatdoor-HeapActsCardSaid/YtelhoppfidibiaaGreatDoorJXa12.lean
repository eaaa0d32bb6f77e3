/- What the minor collector's steps leave as it was. -/
import Derived.Test.YtelhoppfidibiaaGreatDoorJXa11
set_option linter.unusedSimpArgs false
set_option linter.unusedVariables false
namespace Go.Proofs.YtelhoppfidibiaaGreatDoor
open Go.RowKit
open List renaming map_cons→Za,mem_cons→Zb,mem_erase_of_ne→Zc,mem_of_mem_drop→Zd,mem_of_mem_take→Ze,nodup_cons→Zf,perm_cons_erase→Zg
open Nat renaming le_refl→Zh
structure A7.Like (M N:A7):Prop where
 half:N.half=M.half
 old:N.old=M.old
 card:N.card=M.card
 used:N.used=M.used
 top:N.top=M.top
 roots:N.roots=M.roots
 weak:N.weak=M.weak
 ids:N.ids=M.ids
 lenW:N.W.length=M.W.length
 lenC:N.cards.length=M.cards.length
theorem A7.Like.refl (M:A7):M.Like M:=⟨rfl,rfl,rfl,rfl,rfl,rfl,rfl,rfl,rfl,rfl⟩
theorem C1s {C:D9} {j:Nat} (hc:A7n C j):C.M.Like (L6 C j).M:=by
 obtain⟨d0,d1⟩:=hc.dst;have hw:=O6 hc.ok j;have z0:=(Z9 (A6 C.M.W j) hw.1).2.2.2.2.2.2;refine⟨rfl,rfl,rfl,rfl,rfl,rfl,rfl,rfl,?_,rfl⟩;simp only[L6,List.length_set];rw[length_splice];rw[List.length_take,List.length_drop];omega
theorem E0n {C:D9} {a:Int} (hc:A7m C a):C.M.Like (F9 C a).2.M:=by
 unfold F9
 cases hst:stays C.M a with
 | true=>simp only[if_true];exact A7.Like.refl _
 | false =>
  simp only[Bool.false_eq_true,if_false]
  cases hl:K0 C.mv (C9 a) with
  | some to=>exact A7.Like.refl _
  | none=>exact C1s (hc hst hl).2
theorem F6h (M:A7) (j:Nat) (v:Int):M.Like (J3 M j v):=by
 unfold J3
 split
 ·exact⟨rfl,rfl,rfl,rfl,rfl,rfl,rfl,rfl,by simp[A6p,R5],by simp[A6p,R5]⟩
 ·exact⟨rfl,rfl,rfl,rfl,rfl,rfl,rfl,rfl,by simp[R5],rfl⟩
theorem A7.Like.ok {M N:A7} (h:M.Like N) (hok:M.Ok) (hW:∀ x∈N.W,0≤x∧x≤18446744073709551615) (p:-9223372036854775808≤N.oldTop∧N.oldTop≤9223372036854775807):N.Ok :=
 ⟨by rw[h.half];exact hok.half,by rw[h.old];exact hok.old,by rw[h.card];exact hok.card,by rw[h.used];exact hok.used,by rw[h.top];exact hok.top,p,hW,by rw[h.roots];exact hok.roots,by rw[h.weak];exact hok.weak,by rw[h.ids];exact hok.ids,
  by rw[h.lenW];exact hok.lenW,by rw[h.roots];exact hok.lenR,by rw[h.weak];exact hok.lenK,by rw[h.ids];exact hok.lenI,by rw[h.lenC];exact hok.lenC⟩
theorem C6f {k a m s:Int} (hk:0≤k∧k≤255) (ha:0≤a∧a≤15) (hm:0≤m∧m≤1) (hs:0≤s∧s≤4096):0≤J7 k a m s∧J7 k a m s≤18446744073709551615:=by
 unfold J7;omega
theorem E6q {C:D9} {j:Nat} (hc:A7n C j):(L6 C j).M.Ok:=by
 have hw:=O6 hc.ok j;obtain⟨k0,k1,a0,a1,m0,m1,z0⟩:=Z9 (A6 C.M.W j) hw.1;have z1:B5 (A6 C.M.W j)≤4096:=((A1v _).1 hc.hd).2.2;have hp1:=hc.shp.p1;have hp2:=hc.shp.p2;have ho2:=hc.shp.o2;refine (C1s hc).ok hc.ok (fun x hx=>?_) ?_
 ·simp only[L6] at hx;rcases List.mem_or_eq_of_mem_set hx with q|q
  ·unfold splice at q;rcases List.mem_append.1 q with q|q
   ·exact hc.ok.W x (Ze q)
   ·rcases List.mem_append.1 q with q|q
    ·exact hc.ok.W x (Zd (Ze q))
    ·exact hc.ok.W x (Zd q)
  ·subst q;unfold B4j;exact C6f ⟨k0,k1⟩ (by split<;>omega) ⟨m0,m1⟩ ⟨z0,z1⟩
 ·simp only[L6]
  split<;>omega
theorem B3b (n:Int):0≤D3 n∧D3 n≤18446744073709551615:=by unfold D3;omega
theorem C5r {C:D9} {a:Int} (h0:0≤a) (h1:a≤18446744073709551615):0≤(F9 C a).1∧(F9 C a).1≤18446744073709551615:=by
 unfold F9
 cases hst:stays C.M a with
 | true=>simp only[if_true];exact⟨h0,h1⟩
 | false =>
  simp only[Bool.false_eq_true,if_false]
  cases hl:K0 C.mv (C9 a) with
  | some to=>exact B3b _
  | none=>exact B3b _
theorem C2x (M:A7) (j:Nat) (v:Int):(J3 M j v).oldTop=M.oldTop:=by
 unfold J3;split<;>rfl
def A9 (W:List Int) (a:Nat):Nat:=(B5 (A6 W a)).toNat
def D4 (W:List Int) (a:Nat):Ob:=⟨a,A6 W a⟩
theorem E8h (W:List Int) (a:Nat):(D4 W a).n=A9 W a:=rfl
def N7 (W:List Int):Nat→List Nat→Nat→Prop
 | a,[],to=>a=to
 | a,b::l,to=>b=a∧P7 (A6 W a)=true∧N7 W (a+1+A9 W a) l to
theorem N7.le {W:List Int}:∀ {l:List Nat} {a to:Nat},N7 W a l to→a≤to
 | [],a,to,h=>Nat.le_of_eq h
 | b::l,a,to,⟨_,_,h⟩=>by have:=N7.le h;omega
theorem C7t (W:List Int) (to:Nat):∀ (f a:Nat),to-a≤f→a≤to→(objs W to f a).2=true→N7 W a ((objs W to f a).1.map (·.a)) to
 | 0,a,h1,h2,_=>by show a=to;omega
 | f+1,a,h1,h2,h3=>by
  unfold objs at h3 ⊢;by_cases q:a<to
  ·rw[if_pos q] at h3 ⊢;by_cases r:(P7 (A6 W a)&&decide (a+1+(B5 (A6 W a)).toNat≤to))=true
   ·rw[if_pos r] at h3 ⊢;simp only[Bool.and_eq_true,decide_eq_true_eq] at r;exact⟨rfl,r.1,C7t W to f _ (by omega) r.2 h3⟩
   ·rw[if_neg r] at h3;cases h3
  ·rw[if_neg q];show a=to;omega
theorem B4g {W:List Int} {a to:Nat} (h:(part W a to).2=true) (h2:a≤to):N7 W a ((part W a to).1.map (·.a)) to:=C7t W to _ a (Zh _) h2 h
theorem N7.part {W:List Int}:∀ {l:List Nat} {a to:Nat},N7 W a l to→part W a to=(l.map (D4 W),true)
 | [],a,to,h=>B4r W a to (Nat.le_of_eq (Eq.symm h))
 | b::l,a,to,⟨e,h1,h2⟩=>by
  have h3:=h2.le;rw[B4s W a to h1 h3,show a+1+(B5 (A6 W a)).toNat=a+1+A9 W a from rfl,h2.part];subst e;rfl
theorem N7.app {W:List Int}:∀ {l:List Nat} {a m to:Nat} {k:List Nat},N7 W a l m→N7 W m k to→N7 W a (l++k) to
 | [],a,m,to,k,h,h2=>by
  have e:a=m:=h;subst e;exact h2
 | b::l,a,m,to,k,⟨e,h1,h⟩,h2=>⟨e,h1,h.app h2⟩
theorem N7.congr {W V:List Int}:∀ {l:List Nat} {a to:Nat},N7 W a l to→(∀ b∈l,A6 V b=A6 W b)→N7 V a l to
 | [],_,_,h,_=>h
 | b::l,a,to,⟨e,h1,h2⟩,hw=>by
  subst e;have e1:=hw b (by simp);have e2:A9 V b=A9 W b:=by unfold A9;rw[e1]
  refine⟨rfl,by rw[e1];exact h1,?_⟩;rw[e2];exact h2.congr fun c hc=>hw c (by simp[hc])
theorem N7.mem {W:List Int}:∀ {l:List Nat} {a to:Nat},N7 W a l to→∀ b∈l,a≤b∧b+1+A9 W b≤to∧P7 (A6 W b)=true
 | [],_,_,_,b,hb=>by simp at hb
 | c::l,a,to,⟨e,h1,h2⟩,b,hb=>by
  subst e;rcases Zb.1 hb with rfl|hb
  ·exact⟨Zh _,h2.le,h1⟩
  ·obtain⟨q1,q2,q3⟩:=h2.mem b hb;exact⟨by omega,q2,q3⟩
theorem N7.pair {W:List Int}:∀ {l:List Nat} {a to:Nat},N7 W a l to→l.Pairwise fun x y=>x+1+A9 W x≤y
 | [],_,_,_=>List.Pairwise.nil
 | c::l,a,to,⟨e,h1,h2⟩=>by
  subst e;exact List.Pairwise.cons (fun y hy=>(h2.mem y hy).1) h2.pair
theorem N7.nodup {W:List Int} {l:List Nat} {a to:Nat} (h:N7 W a l to):l.Nodup :=
 h.pair.imp fun hxy e=>by subst e;omega
theorem N7.apart {W:List Int} {l:List Nat} {a to:Nat} (h:N7 W a l to) {b c:Nat} (hb:b∈l) (hc:c∈l) (hn:b≠c):b+1+A9 W b≤c∨c+1+A9 W c≤b:=by
 have hp:=h.pair;clear h
 induction l with
 | nil=>simp at hb
 | cons d l ih =>
  rw[List.pairwise_cons] at hp;rcases Zb.1 hb with rfl|hb
  ·rcases Zb.1 hc with rfl|hc
   ·exact absurd rfl hn
   ·exact Or.inl (hp.1 c hc)
  ·rcases Zb.1 hc with rfl|hc
   ·exact Or.inr (hp.1 b (by assumption))
   ·exact ih (by assumption) (by assumption) hp.2
theorem N7.sum {W:List Int}:∀ {l:List Nat} {a to:Nat},N7 W a l to→to=a+(l.map fun b=>1+A9 W b).sum
 | [],a,to,h=>by
  have e:a=to:=h;simp[e]
 | c::l,a,to,⟨e,h1,h2⟩=>by
  subst e;have:=h2.sum;rw[Za,List.sum_cons];omega
theorem B8j (g:Nat→Nat):∀ (K L:List Nat),K.Nodup→(∀ k∈K,k∈L)→(K.map g).sum≤(L.map g).sum
 | [],L,_,_=>by simp
 | k::K,L,h1,h2=>by
  have hk:=h2 k (by simp);have hp:=((Zg hk).map g).sum_nat
  rw[Zf] at h1;have ih:=B8j g K (L.erase k) h1.2 fun c hc=>(Zc (fun (e:c=k)=>h1.1 (by rw[←e];exact hc))).2 (h2 c (by simp[hc]))
  rw[Za,List.sum_cons] at hp ⊢;omega
theorem B2a {α:Type} [DecidableEq α]:∀ (K L:List α),K.Nodup→(∀ k∈K,k∈L)→K.length≤L.length
 | [],L,_,_=>by simp
 | k::K,L,h1,h2=>by
  have hk:=h2 k (by simp);have hp:=(Zg hk).length_eq;rw[Zf] at h1;have ih:=B2a K (L.erase k) h1.2 fun c hc=>(Zc (fun (e:c=k)=>h1.1 (by rw[←e];exact hc))).2 (h2 c (by simp[hc]))
  rw[List.length_cons] at hp ⊢;omega
theorem E6g {l:List (Int × Int)} {p:Int × Int} {k t:Int} (h:K0 l k=some t):K0 (l++[p]) k=some t:=by
 unfold K0 at h ⊢;rw[List.find?_append]
 cases hf:List.find? (fun p=>k==p.1) l with
 | none=>rw[hf] at h;cases h
 | some q=>rw[hf] at h;exact h
theorem E6i {l:List (Int × Int)} {k v:Int} (h:K0 l k=none):K0 (l++[(k,v)]) k=some v:=by
 unfold K0 at h ⊢;rw[List.find?_append]
 cases hf:List.find? (fun p=>k==p.1) l with
 | none=>simp
 | some q=>rw[hf] at h;cases h
theorem B7i {l:List (Int × Int)} {k t:Int} (h:K0 l k=some t):(k,t)∈l:=by
 unfold K0 at h
 cases hf:List.find? (fun p=>k==p.1) l with
 | none=>rw[hf] at h;cases h
 | some q =>
  rw[hf] at h;have h1:=List.find?_some hf;have h2:=List.mem_of_find?_eq_some hf;have e:q.2=t:=by simpa using h
  have e1:k=q.1:=by simpa using h1
  rw[e1,←e];exact h2
theorem B4i {l:List (Int × Int)} {k:Int} (h:K0 l k=none):∀ p∈l,p.1≠k:=fun p hp e=>by
 unfold K0 at h
 cases hf:List.find? (fun p=>k==p.1) l with
 | none =>
  have:=List.find?_eq_none.1 hf p hp;rw[e] at this;simp at this
 | some q=>rw[hf] at h;cases h
theorem B7j {l:List (Int × Int)} (hn:(l.map (·.1)).Nodup) {k t:Int} (h:(k,t)∈l):K0 l k=some t:=by
 cases hl:K0 l k with
 | none=>exact absurd rfl (B4i hl _ h)
 | some s =>
  have hm:=B7i hl;clear hl
  induction l with
  | nil=>simp at h
  | cons q l ih =>
   rw[Za,Zf] at hn;rcases Zb.1 h with e|h
   ·rcases Zb.1 hm with e2|hm
    ·rw[←e] at e2;injection e2 with _ e2;rw[e2]
    ·exact absurd (List.mem_map_of_mem (f:=(·.1)) hm) (by rw[←e] at hn;exact hn.1)
   ·rcases Zb.1 hm with e2|hm
    ·exact absurd (List.mem_map_of_mem (f:=(·.1)) h) (by rw[←e2] at hn;exact hn.1)
    ·exact ih hn.2 h hm
def Fol (M:A7) (mv:List (Int × Int)) (u v:Int):Prop:=(stays M u=true∧v=u)∨(stays M u=false∧∃ to,K0 mv (C9 u)=some to∧v=D3 to)
theorem Fol.app {M:A7} {mv:List (Int × Int)} {u v:Int} (h:Fol M mv u v) (p:Int × Int):Fol M (mv++[p]) u v:=by
 rcases h with h|⟨h1,to,h2,h3⟩
 ·exact Or.inl h
 ·exact Or.inr ⟨h1,to,E6g h2,h3⟩
theorem Y1 {l:List Int} {P:Int→Prop} (h:∀ x∈l,P x) {i:Nat} (hi:i<l.length):P (l.getD i 0):=by
 rw[List.getD_eq_getElem?_getD,List.getElem?_eq_getElem hi];exact h _ (List.getElem_mem hi)
theorem E2e {w w2:World} {t:TypeId} (h:A0 (w.alloc (.cells #[.int .i64 0,.int .i64 0,.int .i64 0,.int .i64 0] t)) w2) :
  w2.cell? ⟨w.heap.size,0,none⟩=some (.int .i64 0)∧w2.cell? ⟨w.heap.size,1,none⟩=some (.int .i64 0)∧w2.cell? ⟨w.heap.size,2,none⟩=some (.int .i64 0)∧w2.cell? ⟨w.heap.size,3,none⟩=some (.int .i64 0) ∧
  w2.frozen? ⟨w.heap.size,0,none⟩=false∧w2.frozen? ⟨w.heap.size,1,none⟩=false∧w2.frozen? ⟨w.heap.size,2,none⟩=false∧w2.frozen? ⟨w.heap.size,3,none⟩=false:=by
 refine⟨h.cell_ (by simp[go_sem]),h.cell_ (by simp[go_sem]),h.cell_ (by simp[go_sem]),h.cell_ (by simp[go_sem]),?_,?_,?_,?_⟩<;>(rw[h.three.2.1 _ _ (by simp)];simp[go_sem])
theorem C6g {w3:World} {B:Nat} (hz:B<w3.heap.size) {a0 a1 a2 a3:Value} (t0:w3.cell? ⟨B,0,none⟩=some a0) (t1:w3.cell? ⟨B,1,none⟩=some a1) (t2:w3.cell? ⟨B,2,none⟩=some a2) (t3:w3.cell? ⟨B,3,none⟩=some a3)
  (u0:w3.frozen? ⟨B,0,none⟩=false) (u1:w3.frozen? ⟨B,1,none⟩=false) (u2:w3.frozen? ⟨B,2,none⟩=false) (u3:w3.frozen? ⟨B,3,none⟩=false) (k a m s:Int) :
  let w4:=(((w3.setCell ⟨B,0,none⟩ (.int .i64 k)).setCell ⟨B,1,none⟩ (.int .i64 a)).setCell ⟨B,2,none⟩ (.int .i64 m)).setCell ⟨B,3,none⟩ (.int .i64 s)
  w4.cell? ⟨B,0,none⟩=some (.int .i64 k)∧w4.cell? ⟨B,1,none⟩=some (.int .i64 a)∧w4.cell? ⟨B,2,none⟩=some (.int .i64 m)∧w4.cell? ⟨B,3,none⟩=some (.int .i64 s) ∧
  w4.frozen? ⟨B,0,none⟩=false∧w4.frozen? ⟨B,1,none⟩=false∧w4.frozen? ⟨B,2,none⟩=false∧w4.frozen? ⟨B,3,none⟩=false∧Below B w3 w4:=by
 intro w4;refine⟨?_,?_,?_,?_,?_,?_,?_,?_,?_⟩
 ·show (((( _:World)).setCell _ _).setCell _ _).cell? _=_;rw[J4 (by decide),J4 (by decide),J4 (by decide)];exact A1c t0
 ·show (((( _:World)).setCell _ _).setCell _ _).cell? _=_;rw[J4 (by decide),J4 (by decide)];exact A1c (by rw[J4 (by decide)];exact t1)
 ·show (((( _:World)).setCell _ _).setCell _ _).cell? _=_;rw[J4 (by decide)];exact A1c (by rw[J4 (by decide),J4 (by decide)];exact t2)
 ·exact A1c (by rw[J4 (by decide),J4 (by decide),J4 (by decide)];exact t3)
 ·simp[w4,go_sem,u0]
 ·simp[w4,go_sem,u1]
 ·simp[w4,go_sem,u2]
 ·simp[w4,go_sem,u3]
 ·have q0:Below B w3 (w3.setCell ⟨B,0,none⟩ (.int .i64 k)):=Below.setCell (p:=⟨B,0,none⟩) (Below.refl B w3) (Zh B) _;have q1:=Below.setCell (p:=⟨B,1,none⟩) q0 (Zh B) (.int .i64 a);have q2:=Below.setCell (p:=⟨B,2,none⟩) q1 (Zh B) (.int .i64 m);exact Below.setCell (p:=⟨B,3,none⟩) q2 (Zh B) (.int .i64 s)
theorem C8v {P:Program} {f:Func} {Q:Ending→World→Prop} {x:Exit} {a:Act} {W:World} (h:∀ W9,W9=W→bodyPost P f Q x a W9):bodyPost P f Q x a W:=h W rfl
structure F9d (M:A7) (p f:Int) (x:Ob) (k:Nat):Prop where
 chk:chk M=0
 kind:C7 p=0
 nz:p≠0
 mem:x∈D8 M
 place:C9 p=(x.a:Int)
 inst:F8 (C6 M) (x.a:Int)=true
 fld:f=(k:Int)
 lt:k<x.n
 size:(x.n:Int)=B5 x.w
 small:B5 x.w≤4096
 word:x.w=A6 M.W x.a
 into:x.a+1+k<M.W.length
end Go.Proofs.YtelhoppfidibiaaGreatDoor
