/- What the minor collector's Collect does, in plain words. -/
import Derived.Test.YtelhoppfidibiaaGreatDoorJTa13
import Derived.Test.YtelhoppfidibiaaGreatDoorJTa10
set_option linter.unusedSimpArgs false
set_option linter.unusedVariables false
namespace Go.Proofs.YtelhoppfidibiaaGreatDoor
open Go.RowKit
def rootsC (C:Col):Nat→Nat→Col
 | _,0=>C
 | i,n+1=>let r:=followC C (C.M.roots.getD i 0);rootsC {r.2 with M:={r.2.M with roots:=r.2.M.roots.set i r.1}} (i+1) n
def cardsC (was:List Bool) (C:Col):Nat→Nat→Col
 | _,0=>C
 | i,n+1 =>
  if was.getD (cardI C.M (i:Int)) false then
   let r:=followC C (wat C.M.W i);cardsC was {r.2 with M:=storeM r.2.M i r.1} (i+1) n
  else cardsC was C (i+1) n
def oldsC (was:List Bool):Col→List Int→Col
 | C,[]=>C
 | C,a::l=>oldsC was (cardsC was C (a.toNat+1) (hSize (wat C.M.W a.toNat)).toNat) l
def todoC:Nat→Col→Col
 | 0,C=>C
 | n+1,C =>
  match C.todo with
  | []=>C
  | a::t=>todoC n (fieldsC {C with todo:=t} (a.toNat+1) (hSize (wat C.M.W a.toNat)).toNat)
def weakC (C:Col):List Int:=C.M.weak.map fun a=>if (lastC C a).2 then (lastC C a).1 else 2
def idsC (C:Col):List (Int × Int):=C.M.ids.filterMap fun x=>if (lastC C x.1).2 then some ((lastC C x.1).1,x.2) else none
def fromC (M:Mem):List Int:=((part M.W (2*M.half).toNat (2*M.half+M.oldTop).toNat).1.filter fun x=>!rawB (hKind x.w)).map fun x=>(x.a:Int)
def startC (M:Mem) (ten:Int):Col:={M:=M,ten:=ten,base:=(1-M.used)*M.half,top:=0,mv:=[],todo:=[]}
structure Mem.Like (M N:Mem):Prop where
 half:N.half=M.half
 old:N.old=M.old
 card:N.card=M.card
 used:N.used=M.used
 top:N.top=M.top
 roots:N.roots=M.roots
 weak:N.weak=M.weak
 ids:N.ids=M.ids
 lenW:N.W.length=M.W.length
 lenC:N.cards.length=M.cards.length
theorem Mem.Like.refl (M:Mem):M.Like M:=⟨rfl,rfl,rfl,rfl,rfl,rfl,rfl,rfl,rfl,rfl⟩
theorem moveC_like {C:Col} {j:Nat} (hc:CanMove C j):C.M.Like (moveC C j).M:=by
 obtain⟨d0,d1⟩:=hc.dst
 have hw:=wat_in hc.ok j
 have z0:=(hd_in (wat C.M.W j) hw.1).2.2.2.2.2.2
 refine⟨rfl,rfl,rfl,rfl,rfl,rfl,rfl,rfl,?_,rfl⟩
 simp only[moveC,List.length_set]
 rw[length_splice]
 rw[List.length_take,List.length_drop]
 omega
theorem followC_like {C:Col} {a:Int} (hc:CanFollow C a):C.M.Like (followC C a).2.M:=by
 unfold followC
 cases hst:stays C.M a with
 | true=>simp only[if_true];exact Mem.Like.refl _
 | false =>
  simp only[Bool.false_eq_true,if_false]
  cases hl:mlook C.mv (placeW a) with
  | some to=>exact Mem.Like.refl _
  | none=>exact moveC_like (hc hst hl).2
theorem storeM_like (M:Mem) (j:Nat) (v:Int):M.Like (storeM M j v):=by
 unfold storeM
 split
 ·exact⟨rfl,rfl,rfl,rfl,rfl,rfl,rfl,rfl,by simp[touchM,setM],by simp[touchM,setM]⟩
 ·exact⟨rfl,rfl,rfl,rfl,rfl,rfl,rfl,rfl,by simp[setM],rfl⟩
theorem Mem.Like.ok {M N:Mem} (h:M.Like N) (hok:M.Ok) (hW:∀ x∈N.W,0≤x∧x≤18446744073709551615) (p:-9223372036854775808≤N.oldTop∧N.oldTop≤9223372036854775807):N.Ok :=
 ⟨by rw[h.half];exact hok.half,by rw[h.old];exact hok.old,by rw[h.card];exact hok.card,by rw[h.used];exact hok.used,by rw[h.top];exact hok.top,p,hW,by rw[h.roots];exact hok.roots,by rw[h.weak];exact hok.weak,by rw[h.ids];exact hok.ids,
  by rw[h.lenW];exact hok.lenW,by rw[h.roots];exact hok.lenR,by rw[h.weak];exact hok.lenK,by rw[h.ids];exact hok.lenI,by rw[h.lenC];exact hok.lenC⟩
theorem headW_u64 {k a m s:Int} (hk:0≤k∧k≤255) (ha:0≤a∧a≤15) (hm:0≤m∧m≤1) (hs:0≤s∧s≤4096):0≤headW k a m s∧headW k a m s≤18446744073709551615:=by
 unfold headW;omega
theorem moveC_ok {C:Col} {j:Nat} (hc:CanMove C j):(moveC C j).M.Ok:=by
 have hw:=wat_in hc.ok j
 obtain⟨k0,k1,a0,a1,m0,m1,z0⟩:=hd_in (wat C.M.W j) hw.1
 have z1:hSize (wat C.M.W j)≤4096:=((isHd_iff _).1 hc.hd).2.2
 have hp1:=hc.shp.p1
 have hp2:=hc.shp.p2
 have ho2:=hc.shp.o2
 refine (moveC_like hc).ok hc.ok (fun x hx=>?_) ?_
 ·simp only[moveC] at hx
  rcases List.mem_or_eq_of_mem_set hx with q|q
  ·unfold splice at q
   rcases List.mem_append.1 q with q|q
   ·exact hc.ok.W x (List.mem_of_mem_take q)
   ·rcases List.mem_append.1 q with q|q
    ·exact hc.ok.W x (List.mem_of_mem_drop (List.mem_of_mem_take q))
    ·exact hc.ok.W x (List.mem_of_mem_drop q)
  ·subst q
   unfold moveHead
   exact headW_u64 ⟨k0,k1⟩ (by split<;>omega) ⟨m0,m1⟩ ⟨z0,z1⟩
 ·simp only[moveC]
  split<;>omega
theorem addrW_u64 (n:Int):0≤addrW n∧addrW n≤18446744073709551615:=by unfold addrW;omega
theorem followC_word {C:Col} {a:Int} (h0:0≤a) (h1:a≤18446744073709551615):0≤(followC C a).1∧(followC C a).1≤18446744073709551615:=by
 unfold followC
 cases hst:stays C.M a with
 | true=>simp only[if_true];exact⟨h0,h1⟩
 | false =>
  simp only[Bool.false_eq_true,if_false]
  cases hl:mlook C.mv (placeW a) with
  | some to=>exact addrW_u64 _
  | none=>exact addrW_u64 _
theorem storeM_oldTop (M:Mem) (j:Nat) (v:Int):(storeM M j v).oldTop=M.oldTop:=by
 unfold storeM;split<;>rfl
def szW (W:List Int) (a:Nat):Nat:=(hSize (wat W a)).toNat
def obW (W:List Int) (a:Nat):Ob:=⟨a,wat W a⟩
theorem obW_n (W:List Int) (a:Nat):(obW W a).n=szW W a:=rfl
def Laid (W:List Int):Nat→List Nat→Nat→Prop
 | a,[],to=>a=to
 | a,b::l,to=>b=a∧isHd (wat W a)=true∧Laid W (a+1+szW W a) l to
theorem Laid.le {W:List Int}:∀ {l:List Nat} {a to:Nat},Laid W a l to→a≤to
 | [],a,to,h=>Nat.le_of_eq h
 | b::l,a,to,⟨_,_,h⟩=>by have:=Laid.le h;omega
theorem laid_of (W:List Int) (to:Nat):∀ (f a:Nat),to-a≤f→a≤to→(objs W to f a).2=true→Laid W a ((objs W to f a).1.map (·.a)) to
 | 0,a,h1,h2,_=>by show a=to;omega
 | f+1,a,h1,h2,h3=>by
  unfold objs at h3 ⊢
  by_cases q:a<to
  ·rw[if_pos q] at h3 ⊢
   by_cases r:(isHd (wat W a)&&decide (a+1+(hSize (wat W a)).toNat≤to))=true
   ·rw[if_pos r] at h3 ⊢
    simp only[Bool.and_eq_true,decide_eq_true_eq] at r
    exact⟨rfl,r.1,laid_of W to f _ (by omega) r.2 h3⟩
   ·rw[if_neg r] at h3;cases h3
  ·rw[if_neg q];show a=to;omega
theorem laid_of_part {W:List Int} {a to:Nat} (h:(part W a to).2=true) (h2:a≤to):Laid W a ((part W a to).1.map (·.a)) to:=laid_of W to _ a (Nat.le_refl _) h2 h
theorem Laid.part {W:List Int}:∀ {l:List Nat} {a to:Nat},Laid W a l to→part W a to=(l.map (obW W),true)
 | [],a,to,h=>part_done W a to (Nat.le_of_eq (Eq.symm h))
 | b::l,a,to,⟨e,h1,h2⟩=>by
  have h3:=h2.le
  rw[part_next W a to h1 h3,show a+1+(hSize (wat W a)).toNat=a+1+szW W a from rfl,h2.part];subst e;rfl
theorem Laid.app {W:List Int}:∀ {l:List Nat} {a m to:Nat} {k:List Nat},Laid W a l m→Laid W m k to→Laid W a (l++k) to
 | [],a,m,to,k,h,h2=>by
  have e:a=m:=h
  subst e;exact h2
 | b::l,a,m,to,k,⟨e,h1,h⟩,h2=>⟨e,h1,h.app h2⟩
theorem Laid.congr {W V:List Int}:∀ {l:List Nat} {a to:Nat},Laid W a l to→(∀ b∈l,wat V b=wat W b)→Laid V a l to
 | [],_,_,h,_=>h
 | b::l,a,to,⟨e,h1,h2⟩,hw=>by
  subst e
  have e1:=hw b (by simp)
  have e2:szW V b=szW W b:=by unfold szW;rw[e1]
  refine⟨rfl,by rw[e1];exact h1,?_⟩
  rw[e2];exact h2.congr fun c hc=>hw c (by simp[hc])
theorem Laid.mem {W:List Int}:∀ {l:List Nat} {a to:Nat},Laid W a l to→∀ b∈l,a≤b∧b+1+szW W b≤to∧isHd (wat W b)=true
 | [],_,_,_,b,hb=>by simp at hb
 | c::l,a,to,⟨e,h1,h2⟩,b,hb=>by
  subst e
  rcases List.mem_cons.1 hb with rfl|hb
  ·exact⟨Nat.le_refl _,h2.le,h1⟩
  ·obtain⟨q1,q2,q3⟩:=h2.mem b hb
   exact⟨by omega,q2,q3⟩
theorem Laid.pair {W:List Int}:∀ {l:List Nat} {a to:Nat},Laid W a l to→l.Pairwise fun x y=>x+1+szW W x≤y
 | [],_,_,_=>List.Pairwise.nil
 | c::l,a,to,⟨e,h1,h2⟩=>by
  subst e
  exact List.Pairwise.cons (fun y hy=>(h2.mem y hy).1) h2.pair
theorem Laid.nodup {W:List Int} {l:List Nat} {a to:Nat} (h:Laid W a l to):l.Nodup :=
 h.pair.imp fun hxy e=>by subst e;omega
theorem Laid.apart {W:List Int} {l:List Nat} {a to:Nat} (h:Laid W a l to) {b c:Nat} (hb:b∈l) (hc:c∈l) (hn:b≠c):b+1+szW W b≤c∨c+1+szW W c≤b:=by
 have hp:=h.pair
 clear h
 induction l with
 | nil=>simp at hb
 | cons d l ih =>
  rw[List.pairwise_cons] at hp
  rcases List.mem_cons.1 hb with rfl|hb
  ·rcases List.mem_cons.1 hc with rfl|hc
   ·exact absurd rfl hn
   ·exact Or.inl (hp.1 c hc)
  ·rcases List.mem_cons.1 hc with rfl|hc
   ·exact Or.inr (hp.1 b (by assumption))
   ·exact ih (by assumption) (by assumption) hp.2
theorem Laid.sum {W:List Int}:∀ {l:List Nat} {a to:Nat},Laid W a l to→to=a+(l.map fun b=>1+szW W b).sum
 | [],a,to,h=>by
  have e:a=to:=h
  simp[e]
 | c::l,a,to,⟨e,h1,h2⟩=>by
  subst e
  have:=h2.sum
  rw[List.map_cons,List.sum_cons];omega
theorem sum_sub (g:Nat→Nat):∀ (K L:List Nat),K.Nodup→(∀ k∈K,k∈L)→(K.map g).sum≤(L.map g).sum
 | [],L,_,_=>by simp
 | k::K,L,h1,h2=>by
  have hk:=h2 k (by simp)
  have hp:=((List.perm_cons_erase hk).map g).sum_nat
  rw[List.nodup_cons] at h1
  have ih:=sum_sub g K (L.erase k) h1.2 fun c hc=>(List.mem_erase_of_ne (fun (e:c=k)=>h1.1 (by rw[←e];exact hc))).2 (h2 c (by simp[hc]))
  rw[List.map_cons,List.sum_cons] at hp ⊢
  omega
theorem len_sub {α:Type} [DecidableEq α]:∀ (K L:List α),K.Nodup→(∀ k∈K,k∈L)→K.length≤L.length
 | [],L,_,_=>by simp
 | k::K,L,h1,h2=>by
  have hk:=h2 k (by simp)
  have hp:=(List.perm_cons_erase hk).length_eq
  rw[List.nodup_cons] at h1
  have ih:=len_sub K (L.erase k) h1.2 fun c hc=>(List.mem_erase_of_ne (fun (e:c=k)=>h1.1 (by rw[←e];exact hc))).2 (h2 c (by simp[hc]))
  rw[List.length_cons] at hp ⊢
  omega
theorem mlook_app {l:List (Int × Int)} {p:Int × Int} {k t:Int} (h:mlook l k=some t):mlook (l++[p]) k=some t:=by
 unfold mlook at h ⊢
 rw[List.find?_append]
 cases hf:List.find? (fun p=>k==p.1) l with
 | none=>rw[hf] at h;cases h
 | some q=>rw[hf] at h;exact h
theorem mlook_new {l:List (Int × Int)} {k v:Int} (h:mlook l k=none):mlook (l++[(k,v)]) k=some v:=by
 unfold mlook at h ⊢
 rw[List.find?_append]
 cases hf:List.find? (fun p=>k==p.1) l with
 | none=>simp
 | some q=>rw[hf] at h;cases h
theorem mlook_mem {l:List (Int × Int)} {k t:Int} (h:mlook l k=some t):(k,t)∈l:=by
 unfold mlook at h
 cases hf:List.find? (fun p=>k==p.1) l with
 | none=>rw[hf] at h;cases h
 | some q =>
  rw[hf] at h
  have h1:=List.find?_some hf
  have h2:=List.mem_of_find?_eq_some hf
  have e:q.2=t:=by simpa using h
  have e1:k=q.1:=by simpa using h1
  rw[e1,←e];exact h2
theorem mlook_none {l:List (Int × Int)} {k:Int} (h:mlook l k=none):∀ p∈l,p.1≠k:=fun p hp e=>by
 unfold mlook at h
 cases hf:List.find? (fun p=>k==p.1) l with
 | none =>
  have:=List.find?_eq_none.1 hf p hp
  rw[e] at this;simp at this
 | some q=>rw[hf] at h;cases h
theorem mlook_of {l:List (Int × Int)} (hn:(l.map (·.1)).Nodup) {k t:Int} (h:(k,t)∈l):mlook l k=some t:=by
 cases hl:mlook l k with
 | none=>exact absurd rfl (mlook_none hl _ h)
 | some s =>
  have hm:=mlook_mem hl
  clear hl
  induction l with
  | nil=>simp at h
  | cons q l ih =>
   rw[List.map_cons,List.nodup_cons] at hn
   rcases List.mem_cons.1 h with e|h
   ·rcases List.mem_cons.1 hm with e2|hm
    ·rw[←e] at e2;injection e2 with _ e2;rw[e2]
    ·exact absurd (List.mem_map_of_mem (f:=(·.1)) hm) (by rw[←e] at hn;exact hn.1)
   ·rcases List.mem_cons.1 hm with e2|hm
    ·exact absurd (List.mem_map_of_mem (f:=(·.1)) h) (by rw[←e2] at hn;exact hn.1)
    ·exact ih hn.2 h hm
def Fol (M:Mem) (mv:List (Int × Int)) (u v:Int):Prop:=(stays M u=true∧v=u)∨(stays M u=false∧∃ to,mlook mv (placeW u)=some to∧v=addrW to)
theorem Fol.app {M:Mem} {mv:List (Int × Int)} {u v:Int} (h:Fol M mv u v) (p:Int × Int):Fol M (mv++[p]) u v:=by
 rcases h with h|⟨h1,to,h2,h3⟩
 ·exact Or.inl h
 ·exact Or.inr ⟨h1,to,mlook_app h2,h3⟩
theorem getD_in {l:List Int} {P:Int→Prop} (h:∀ x∈l,P x) {i:Nat} (hi:i<l.length):P (l.getD i 0):=by
 rw[List.getD_eq_getElem?_getD,List.getElem?_eq_getElem hi];exact h _ (List.getElem_mem hi)
theorem head_block {w w2:World} {t:TypeId} (h:Ext (w.alloc (.cells #[.int .i64 0,.int .i64 0,.int .i64 0,.int .i64 0] t)) w2) :
  w2.cell? ⟨w.heap.size,0,none⟩=some (.int .i64 0)∧w2.cell? ⟨w.heap.size,1,none⟩=some (.int .i64 0)∧w2.cell? ⟨w.heap.size,2,none⟩=some (.int .i64 0)∧w2.cell? ⟨w.heap.size,3,none⟩=some (.int .i64 0) ∧
  w2.frozen? ⟨w.heap.size,0,none⟩=false∧w2.frozen? ⟨w.heap.size,1,none⟩=false∧w2.frozen? ⟨w.heap.size,2,none⟩=false∧w2.frozen? ⟨w.heap.size,3,none⟩=false:=by
 refine⟨h.cell_ (by simp[go_sem]),h.cell_ (by simp[go_sem]),h.cell_ (by simp[go_sem]),h.cell_ (by simp[go_sem]),?_,?_,?_,?_⟩<;>(rw[h.three.2.1 _ _ (by simp)];simp[go_sem])
theorem head_set {w3:World} {B:Nat} (hz:B<w3.heap.size) {a0 a1 a2 a3:Value} (t0:w3.cell? ⟨B,0,none⟩=some a0) (t1:w3.cell? ⟨B,1,none⟩=some a1) (t2:w3.cell? ⟨B,2,none⟩=some a2) (t3:w3.cell? ⟨B,3,none⟩=some a3)
  (u0:w3.frozen? ⟨B,0,none⟩=false) (u1:w3.frozen? ⟨B,1,none⟩=false) (u2:w3.frozen? ⟨B,2,none⟩=false) (u3:w3.frozen? ⟨B,3,none⟩=false) (k a m s:Int) :
  let w4:=(((w3.setCell ⟨B,0,none⟩ (.int .i64 k)).setCell ⟨B,1,none⟩ (.int .i64 a)).setCell ⟨B,2,none⟩ (.int .i64 m)).setCell ⟨B,3,none⟩ (.int .i64 s)
  w4.cell? ⟨B,0,none⟩=some (.int .i64 k)∧w4.cell? ⟨B,1,none⟩=some (.int .i64 a)∧w4.cell? ⟨B,2,none⟩=some (.int .i64 m)∧w4.cell? ⟨B,3,none⟩=some (.int .i64 s) ∧
  w4.frozen? ⟨B,0,none⟩=false∧w4.frozen? ⟨B,1,none⟩=false∧w4.frozen? ⟨B,2,none⟩=false∧w4.frozen? ⟨B,3,none⟩=false∧Below B w3 w4:=by
 intro w4
 refine⟨?_,?_,?_,?_,?_,?_,?_,?_,?_⟩
 ·show (((( _:World)).setCell _ _).setCell _ _).cell? _=_
  rw[cell_set_off (by decide),cell_set_off (by decide),cell_set_off (by decide)]
  exact cell_set_same t0
 ·show (((( _:World)).setCell _ _).setCell _ _).cell? _=_
  rw[cell_set_off (by decide),cell_set_off (by decide)]
  exact cell_set_same (by rw[cell_set_off (by decide)];exact t1)
 ·show (((( _:World)).setCell _ _).setCell _ _).cell? _=_
  rw[cell_set_off (by decide)]
  exact cell_set_same (by rw[cell_set_off (by decide),cell_set_off (by decide)];exact t2)
 ·exact cell_set_same (by rw[cell_set_off (by decide),cell_set_off (by decide),cell_set_off (by decide)];exact t3)
 ·simp[w4,go_sem,u0]
 ·simp[w4,go_sem,u1]
 ·simp[w4,go_sem,u2]
 ·simp[w4,go_sem,u3]
 ·have q0:Below B w3 (w3.setCell ⟨B,0,none⟩ (.int .i64 k)):=Below.setCell (p:=⟨B,0,none⟩) (Below.refl B w3) (Nat.le_refl B) _
  have q1:=Below.setCell (p:=⟨B,1,none⟩) q0 (Nat.le_refl B) (.int .i64 a)
  have q2:=Below.setCell (p:=⟨B,2,none⟩) q1 (Nat.le_refl B) (.int .i64 m)
  exact Below.setCell (p:=⟨B,3,none⟩) q2 (Nat.le_refl B) (.int .i64 s)
theorem named_body {P:Program} {f:Func} {Q:Ending→World→Prop} {x:Exit} {a:Act} {W:World} (h:∀ W9,W9=W→bodyPost P f Q x a W9):bodyPost P f Q x a W:=h W rfl
end Go.Proofs.YtelhoppfidibiaaGreatDoor
