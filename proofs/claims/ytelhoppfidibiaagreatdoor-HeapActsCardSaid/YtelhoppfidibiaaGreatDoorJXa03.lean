/- Maps whose keys are of an integer kind, as lists of pairs in the order in which the keys came: what a look-up and a store do. Over any program. -/
import Derived.Maps.OwnOps
import Derived.Test.YtelhoppfidibiaaGreatDoorJXa02
import Derived.Maps.AppendAt
import Derived.Laws.AppendOwnNone
import Derived.Deep.RegionLaw
set_option linter.unusedSimpArgs false
set_option linter.unusedVariables false
set_option maxHeartbeats 1000000
namespace Go.Proofs.YtelhoppfidibiaaGreatDoor
open Go.RowKit
open IntWalk renaming wrap64_in→Za
open List renaming find?_cons→Zb,map_cons→Zc
def Y7 (es:List (Int × Value)) (k:Int):Option Value:=(es.find? fun p=>k==p.1).map (·.2)
def A1z:List (Int × Value)→Int→Value→List (Int × Value)
 | [],k,v=>[(k,v)]
 | (a,u)::es,k,v=>if k==a then (a,v)::es else (a,u)::A1z es k v
theorem E6d (es:List (Int × Value)) (k:Int) (v:Value):Y7 (A1z es k v) k=some v:=by
 induction es with
 | nil=>simp[A1z,Y7]
 | cons p es ih =>
  obtain⟨a,u⟩:=p;simp only[A1z];by_cases h:k=a
  ·subst h;simp[Y7]
  ·have hb:(k==a)=false:=by simpa using h
   rw[hb];simp only[Bool.false_eq_true,if_false];have:Y7 ((a,u)::A1z es k v) k=Y7 (A1z es k v) k:=by simp[Y7,Zb,hb]
   rw[this,ih]
theorem E6c (es:List (Int × Value)) (k j:Int) (v:Value) (hj:j≠k):Y7 (A1z es k v) j=Y7 es j:=by
 induction es with
 | nil=>simp[A1z,Y7,hj]
 | cons p es ih =>
  obtain⟨a,u⟩:=p;simp only[A1z];by_cases h:k=a
  ·subst h;have hb:(j==k)=false:=by simpa using hj
   simp[Y7,Zb,hb]
  ·have hb:(k==a)=false:=by simpa using h
   rw[hb];simp only[Bool.false_eq_true,if_false];unfold Y7 at ih ⊢;simp only[Zb];rcases hja:(j==a) with _|_
   ·simpa using ih
   ·rfl
def N8 (w:World) (b:Nat) (q:IntKind) (es:List (Int × Value)):Prop :=
 ∃ ents clock,w.heap[b]?=some (.map ents clock)∧ents.toList.map (fun e=>(e.key,e.val))=es.map (fun p=>(Value.int q p.1,p.2))
theorem N8.lt {w:World} {b:Nat} {q:IntKind} {es:List (Int × Value)} (h:N8 w b q es):b<w.heap.size:=by
 obtain⟨ents,clock,hb,_⟩:=h;rcases Nat.lt_or_ge b w.heap.size with g|g
 ·exact g
 ·simp[Array.getElem?_eq_none g] at hb
theorem N8.of_block {w w':World} {b:Nat} {q:IntKind} {es:List (Int × Value)} (h:N8 w b q es) (he:w'.heap[b]?=w.heap[b]?):N8 w' b q es:=by
 obtain⟨ents,clock,hb,hm⟩:=h;exact⟨ents,clock,he.trans hb,hm⟩
theorem N8.ext {w w':World} {b:Nat} {q:IntKind} {es:List (Int × Value)} (h:N8 w b q es) (hx:A0 w w'):N8 w' b q es :=
 h.of_block (Below.block hx b h.lt)
theorem N8.setCell {w:World} {b:Nat} {q:IntKind} {es:List (Int × Value)} (h:N8 w b q es) (p:Addr) (u:Value):N8 (w.setCell p u) b q es:=by
 obtain⟨ents,clock,hb,hm⟩:=h;refine⟨ents,clock,?_,hm⟩;simp only[World.setCell,Array.getElem?_modify]
 split
 ·rename_i e;subst e;simp[hb]
 ·exact hb
theorem N8.drewN {w:World} {b:Nat} {q:IntKind} {es:List (Int × Value)} (h:N8 w b q es) (n:Nat):N8 (w.drewN n) b q es:=h
theorem N8.made (w:World) (q:IntKind):N8 (w.alloc (.map #[] 0)) w.heap.size q [] :=
 ⟨#[],0,(MapKept.heap_alloc w _).1,rfl⟩
section
variable {P:Program} {w:World}
theorem C5n (q:IntKind) (k:Int):∀ (l:List MapEntry) (es:List (Int × Value)) (i:Nat),l.map (fun e=>(e.key,e.val))=es.map (fun p=>(Value.int q p.1,p.2)) →
  (∃ j v,Instr.findNow (.int q) (.int q k) l i=some (some (i+j,v))∧Y7 es k=some v∧(l.modify j fun e=>{e with val:=(default:Value)}).length=l.length∧j<l.length ∧
   ∀ u kk,kk=Value.int q k→(l.modify j fun e=>{e with key:=kk,val:=u}).map (fun e=>(e.key,e.val))=(A1z es k u).map (fun p=>(Value.int q p.1,p.2))∧(l[j]?.map (·.key))=some (Value.int q k)) ∨
  (Instr.findNow (.int q) (.int q k) l i=some none∧Y7 es k=none∧∀ u,A1z es k u=es++[(k,u)]):=by
 intro l
 induction l with
 | nil =>
  intro es i h;obtain rfl:es=[]:=by simpa using h.symm
  exact Or.inr ⟨rfl,rfl,fun u=>rfl⟩
 | cons e l ih =>
  intro es i h
  match es,h with
  | [],h=>simp at h
  | (a,u0)::es,h =>
   simp only[Zc,List.cons.injEq,Prod.mk.injEq] at h;obtain⟨⟨hk,hv⟩,ht⟩:=h;by_cases ha:k=a
   ·subst ha;refine Or.inl ⟨0,e.val,?_,?_,?_,by simp,?_⟩
    ·simp[Instr.findNow,hk,Instr.sameNow]
    ·simp[Y7,hv]
    ·simp
    ·intro u kk hkk;refine⟨?_,by simp[hk]⟩;simp[A1z,hkk,ht]
   ·have hb:(k==a)=false:=by simpa using ha
    have hs:Instr.sameNow (.int q) (.int q k) e.key=some false:=by rw[hk];simp[Instr.sameNow,ha]
    have hf:∀ i,Instr.findNow (.int q) (.int q k) (e::l) i=Instr.findNow (.int q) (.int q k) l (i+1):=by
     intro i;simp only[Instr.findNow,hs]
    have hg:Y7 ((a,u0)::es) k=Y7 es k:=by simp[Y7,Zb,hb]
    rcases ih es (i+1) ht with⟨j,v,h1,h2,_,h4,h5⟩|⟨h1,h2,h3⟩
    ·refine Or.inl ⟨j+1,v,by rw[hf,h1];simp;omega,by rw[hg,h2],by simp,by simp;omega,?_⟩;intro u kk hkk;have:=h5 u kk hkk;refine⟨?_,by simpa using this.2⟩;simp only[List.modify_succ_cons,Zc,A1z,hb,Bool.false_eq_true,if_false,hk,hv,this.1]
    ·exact Or.inr ⟨by rw[hf,h1],by rw[hg,h2],fun u=>by simp[A1z,hb,h3 u]⟩
theorem B5w {k:TypeId} {q:IntKind} (hk:P.underlying k=some (.int q)) (em:Bool) (v:Value) (w:World):(Instr.checkKey em 10000 k v).run P w=.ok () w:=by
 show (Instr.checkKey em (9999+1) k v).run P w=.ok () w;unfold Instr.checkKey;simp only[Sem.run_bind,run_underlying hk,Result.andThen];rfl
theorem B4w {t k e:TypeId} {q:IntKind} (ht:P.underlying t=some (.map k e)) (hk:P.underlying k=some (.int q)) {z:Value} (hz:(zeroValue e).run P w=.ok z w)
  {b:Nat} {es:List (Int × Value)} (hm:N8 w b q es) (x:Int) (c:Bool) :
  (Instr.lookup t (.map (some b)) (.int q x) c).run P w=.ok (if c then .tuple #[(Y7 es x).getD z,.bool (Y7 es x).isSome] else (Y7 es x).getD z) w:=by
 obtain⟨ents,clock,hb,hl⟩:=hm;rcases C5n q x ents.toList es 0 hl with⟨j,v,h1,h2,_⟩|⟨h1,h2,_⟩
 ·simp[Instr.lookup,run_underlying ht,MapKept.run_getObj_map hb,B5w hk,Instr.findKey,run_underlying hk,h1,h2,Result.andThen]
 ·simp[Instr.lookup,run_underlying ht,MapKept.run_getObj_map hb,B5w hk,Instr.findKey,run_underlying hk,h1,h2,hz,Result.andThen]
structure But (b:Nat) (w w':World):Prop where
 os:w'.os=w.os
 tape:w'.tape=w.tape
 output:w'.output=w.output
 size:w'.heap.size=w.heap.size
 block:∀ k,k≠b→w'.heap[k]?=w.heap[k]?
theorem B2l {t k e:TypeId} {q:IntKind} (ht:P.underlying t=some (.map k e)) (hk:P.underlying k=some (.int q))
  {b:Nat} {es:List (Int × Value)} (hm:N8 w b q es) (x:Int) (v:Value) :
  ∃ w',(Instr.mapUpdate t (.map (some b)) (.int q x) v).run P w=.ok () w'∧N8 w' b q (A1z es x v)∧But b w w':=by
 obtain⟨ents,clock,hb,hl⟩:=hm;have hlt:b<w.heap.size:=(show N8 w b q es from ⟨ents,clock,hb,hl⟩).lt;rcases C5n q x ents.toList es 0 hl with⟨j,v0,h1,h2,_,h4,h5⟩|⟨h1,h2,h3⟩
 ·obtain⟨h6,h7⟩:=h5 v (.int q x) rfl;have hj:(ents[j]?).map (·.key)=some (Value.int q x):=by simpa using h7
  have hst:(Instr.keyThatStays (((ents[j]?).map (·.key)).getD (.int q x)) (.int q x)).run P w=.ok (.int q x) w:=by
   rw[hj];simp[Instr.keyThatStays,Instr.sameBits]
  refine⟨{w with heap:=w.heap.setIfInBounds b (.map (ents.modify j fun e=>{e with key:=.int q x,val:=v}) clock)},?_,?_,?_⟩
  ·simp[Instr.mapUpdate,run_underlying ht,MapKept.run_getObj_map hb,B5w hk,Instr.findKey,run_underlying hk,h1,hst,MapKept.run_setObj_map _ hb,Result.andThen]
  ·refine⟨ents.modify j fun e=>{e with key:=.int q x,val:=v},clock,by simp[Array.getElem?_setIfInBounds,hlt],?_⟩;simpa using h6
  ·refine⟨rfl,rfl,rfl,by simp,fun i hi=>?_⟩;simp only[Array.getElem?_setIfInBounds];rw[if_neg (fun e=>hi e.symm)]
 ·refine⟨{w with heap:=w.heap.setIfInBounds b (.map (ents.push {key:=.int q x,val:=v,born:=clock}) (clock+1))},?_,?_,?_⟩
  ·simp[Instr.mapUpdate,run_underlying ht,MapKept.run_getObj_map hb,B5w hk,Instr.findKey,run_underlying hk,h1,MapKept.run_setObj_map _ hb,Result.andThen]
  ·refine⟨ents.push {key:=.int q x,val:=v,born:=clock},clock+1,by simp[Array.getElem?_setIfInBounds,hlt],?_⟩;simp[h3 v,hl]
  ·refine⟨rfl,rfl,rfl,by simp,fun i hi=>?_⟩;simp only[Array.getElem?_setIfInBounds];rw[if_neg (fun e=>hi e.symm)]
end
theorem D2g (a:Int) (h0:0≤a) (h1:a≤18446744073709551615) :
  wrap64 (bits .and .u64 (a/4) 255)=B3 a∧wrap64 (bits .and .u64 (a/1024) 15)=F4 a∧wrap64 (bits .and .u64 (a/16384) 1)=G5 a∧wrap64 (bits .and .u64 (a/65536) 8191)=B5 a%8192:=by
 rw[D5b _ (by omega) (by omega),D5a _ (by omega) (by omega),D4z _ (by omega) (by omega),D5e _ (by omega) (by omega)];rw[Za _ (by omega),Za _ (by omega),Za _ (by omega),Za _ (by omega)];exact⟨rfl,rfl,rfl,rfl⟩
theorem A3d (a:Int) (h0:0≤a) (h1:a≤18446744073709551615) (h:P7 a=true) (w:World) :
  Calls Tryz.prog 56 #[.int .u64 a] w fun e w'=>e=.returned (.tuple #[.agg #[.int .i64 (B3 a),.int .i64 (F4 a),.int .i64 (G5 a),.int .i64 (B5 a)],.nilIface])∧A0 w w':=by
 obtain⟨b1,b2,b3,b4⟩:=D2g a h0 h1;have hin:=Z9 a h0;have hsz:B5 a≤4096:=((A1v a).1 h).2.2;have b5:B5 a%8192=B5 a:=by omega
 rw[b5] at b4;have hbk:=E2a a h;have k1:R1 (B3 a) 255=true:=A4u.2 (by omega);have k2:R1 (F4 a) 15=true:=A4u.2 (by omega);have k3:R1 (G5 a) 1=true:=A4u.2 (by omega);have k4:R1 (B5 a) 4096=true:=A4u.2 (by omega);clear hin hsz b5 h
 go_enter Tryz.func56,Tryz.ntmps56
 go_wp2_with (go_at_call 115;refine (C9z _ _ _ _ k1 k2 k3 k4 _).mono ?_;rintro e w' ⟨rfl,hb⟩;obtain⟨hc,hf,hz⟩:=hb.three;simp at hz)
 have q0:w'.cell? ⟨w.heap.size,0,none⟩=some (.int .i64 0):=by rw[hc _ _ (by simp;omega)];simp[go_sem]
 have q1:w'.cell? ⟨w.heap.size,1,none⟩=some (.int .i64 0):=by rw[hc _ _ (by simp;omega)];simp[go_sem]
 have q2:w'.cell? ⟨w.heap.size,2,none⟩=some (.int .i64 0):=by rw[hc _ _ (by simp;omega)];simp[go_sem]
 have q3:w'.cell? ⟨w.heap.size,3,none⟩=some (.int .i64 0):=by rw[hc _ _ (by simp;omega)];simp[go_sem]
 exact bodyPost_ret (v:=.tuple #[.agg #[.int .i64 (B3 a),.int .i64 (F4 a),.int .i64 (G5 a),.int .i64 (B5 a)],.nilIface]) (by simp[results,Tryz.results56,go_sem,q0,q1,q2,q3]) rfl
  ⟨rfl,by repeat (first|exact (((A0.refl _).alloc_ _).alloc_ _).trans_ hb|refine A0.set_ ?_ (by simp) _)⟩
theorem D2h (a:Int) (h0:0≤a) (h1:a≤18446744073709551615) (h:P7 a=false) (w:World) (b s:Addr) (gb:A1o w b) (gs:A0d w s) :
  Calls Tryz.prog 56 #[.int .u64 a] w fun e w'=>e=.returned (.tuple #[.agg #[.int .i64 0,.int .i64 0,.int .i64 0,.int .i64 0],E0 s])∧A0 w w':=by
 have hlb:=B9 gb;have hls:=B9 gs;simp only at hlb hls;obtain⟨b1,b2,b3,b4⟩:=D2g a h0 h1;have hin:=Z9 a h0;have k1:R1 (B3 a) 255=true:=A4u.2 (by omega);have k2:R1 (F4 a) 15=true:=A4u.2 (by omega);have k3:R1 (G5 a) 1=true:=A4u.2 (by omega);by_cases k4:R1 (B5 a%8192) 4096=true
 ·have hne:J7 (B3 a) (F4 a) (G5 a) (B5 a%8192)≠a:=fun e=>by
   rw[E2c a e (A4u.1 k4).2] at h;cases h
  have hne':(J7 (B3 a) (F4 a) (G5 a) (B5 a%8192) != a)=true:=by simpa using hne
  clear hin h hne
  go_enter Tryz.func56,Tryz.ntmps56
  go_wp2_with (go_at_call 115;refine (C9z _ _ _ _ k1 k2 k3 k4 _).mono ?_;rintro e w' ⟨rfl,hb⟩;have gs2:=hb.cell_ ((((A0.refl w).alloc_ _).alloc_ _).cell_ gs);obtain⟨hc,hf,hz⟩:=hb.three;simp at hz)
  have q0:w'.cell? ⟨w.heap.size,0,none⟩=some (.int .i64 0):=by rw[hc _ _ (by simp;omega)];simp[go_sem]
  have q1:w'.cell? ⟨w.heap.size,1,none⟩=some (.int .i64 0):=by rw[hc _ _ (by simp;omega)];simp[go_sem]
  have q2:w'.cell? ⟨w.heap.size,2,none⟩=some (.int .i64 0):=by rw[hc _ _ (by simp;omega)];simp[go_sem]
  have q3:w'.cell? ⟨w.heap.size,3,none⟩=some (.int .i64 0):=by rw[hc _ _ (by simp;omega)];simp[go_sem]
  have q4:w'.frozen? ⟨w.heap.size,0,none⟩=false:=by rw[hf _ _ (by simp;omega)];simp[go_sem]
  have q5:w'.frozen? ⟨w.heap.size,1,none⟩=false:=by rw[hf _ _ (by simp;omega)];simp[go_sem]
  have q6:w'.frozen? ⟨w.heap.size,2,none⟩=false:=by rw[hf _ _ (by simp;omega)];simp[go_sem]
  have q7:w'.frozen? ⟨w.heap.size,3,none⟩=false:=by rw[hf _ _ (by simp;omega)];simp[go_sem]
  go_region
  all_goals go_wp2
  all_goals refine bodyPost_ret (v:=.tuple #[.agg #[.int .i64 0,.int .i64 0,.int .i64 0,.int .i64 0],E0 s]) (by simp[results,Tryz.results56,go_sem,q0,q1,q2,q3]) rfl ⟨rfl,?_⟩
  all_goals repeat (first|exact (((A0.refl _).alloc_ _).alloc_ _).trans_ hb|refine A0.drew_ ?_|refine A0.set_ ?_ (by simp) _)
 ·have k4':R1 (B5 a%8192) 4096=false:=by simpa using k4
  clear hin h k4
  go_enter Tryz.func56,Tryz.ntmps56
  go_wp2_with (go_at_call 115;refine (E8y _ _ _ _ (by simp[k4']) _ b ((((A0.refl w).alloc_ _).alloc_ _).cell_ gb)).mono ?_;rintro e w' ⟨rfl,hb⟩;have gs2:=hb.cell_ ((((A0.refl w).alloc_ _).alloc_ _).cell_ gs);obtain⟨hc,hf,hz⟩:=hb.three;simp at hz)
  have q0:w'.cell? ⟨w.heap.size,0,none⟩=some (.int .i64 0):=by rw[hc _ _ (by simp;omega)];simp[go_sem]
  have q1:w'.cell? ⟨w.heap.size,1,none⟩=some (.int .i64 0):=by rw[hc _ _ (by simp;omega)];simp[go_sem]
  have q2:w'.cell? ⟨w.heap.size,2,none⟩=some (.int .i64 0):=by rw[hc _ _ (by simp;omega)];simp[go_sem]
  have q3:w'.cell? ⟨w.heap.size,3,none⟩=some (.int .i64 0):=by rw[hc _ _ (by simp;omega)];simp[go_sem]
  have q4:w'.frozen? ⟨w.heap.size,0,none⟩=false:=by rw[hf _ _ (by simp;omega)];simp[go_sem]
  have q5:w'.frozen? ⟨w.heap.size,1,none⟩=false:=by rw[hf _ _ (by simp;omega)];simp[go_sem]
  have q6:w'.frozen? ⟨w.heap.size,2,none⟩=false:=by rw[hf _ _ (by simp;omega)];simp[go_sem]
  have q7:w'.frozen? ⟨w.heap.size,3,none⟩=false:=by rw[hf _ _ (by simp;omega)];simp[go_sem]
  go_region
  all_goals go_wp2
  all_goals refine bodyPost_ret (v:=.tuple #[.agg #[.int .i64 0,.int .i64 0,.int .i64 0,.int .i64 0],E0 s]) (by simp[results,Tryz.results56,go_sem,q0,q1,q2,q3]) rfl ⟨rfl,?_⟩
  all_goals repeat (first|exact (((A0.refl _).alloc_ _).alloc_ _).trans_ hb|refine A0.drew_ ?_|refine A0.set_ ?_ (by simp) _)
structure A7 where
 half:Int
 old:Int
 card:Int
 W:List Int
 used:Int
 top:Int
 oldTop:Int
 roots:List Int
 weak:List Int
 ids:List (Int × Int)
 cards:List Bool
structure A7.Ok (M:A7):Prop where
 half:-9223372036854775808≤M.half∧M.half≤9223372036854775807
 old:-9223372036854775808≤M.old∧M.old≤9223372036854775807
 card:-9223372036854775808≤M.card∧M.card≤9223372036854775807
 used:-9223372036854775808≤M.used∧M.used≤9223372036854775807
 top:-9223372036854775808≤M.top∧M.top≤9223372036854775807
 oldTop:-9223372036854775808≤M.oldTop∧M.oldTop≤9223372036854775807
 W:∀ x∈M.W,0≤x∧x≤18446744073709551615
 roots:∀ x∈M.roots,0≤x∧x≤18446744073709551615
 weak:∀ x∈M.weak,0≤x∧x≤18446744073709551615
 ids:∀ x∈M.ids,(0≤x.1∧x.1≤18446744073709551615)∧(-9223372036854775808≤x.2∧x.2≤9223372036854775807)
 lenW:M.W.length≤9223372036854775807
 lenR:M.roots.length≤9223372036854775807
 lenK:M.weak.length≤9223372036854775807
 lenI:M.ids.length≤9223372036854775807
 lenC:M.cards.length≤9223372036854775807
def C5 (l:List Int):List Value:=l.map fun x=>Value.int .u64 x
def G0 (l:List (Int × Int)):List Value:=l.flatMap fun x=>[Value.int .u64 x.1,Value.int .i64 x.2]
def R7 (l:List Bool):List Value:=l.map fun x=>Value.bool x
def F7 (w:World) (a:Option Addr) (cs:List Value):Prop :=
 ∀ j u,cs[j]?=some u→∃ b off,a=some ⟨b,off,none⟩∧w.cell? ⟨b,off+j,none⟩=some u
theorem F7.ext {w w':World} {a:Option Addr} {cs:List Value} (h:F7 w a cs) (hx:A0 w w'):F7 w' a cs:=fun j u hu=>by
 obtain⟨b,off,ha,hc⟩:=h j u hu;exact⟨b,off,ha,hx.cell_ hc⟩
theorem F7.nil (w:World) (a:Option Addr):F7 w a []:=fun j u h=>by simp at h
theorem F7.at_ {w:World} {b off:Nat} {cs:List Value} (h:F7 w (some ⟨b,off,none⟩) cs) {j:Nat} {u:Value} (hu:cs[j]?=some u):w.cell? ⟨b,off+j,none⟩=some u:=by
 obtain⟨b',off',ha,hc⟩:=h j u hu;injection ha with ha;injection ha with h1 h2;subst h1 h2;exact hc
structure C8 where
 W:Option Addr × Nat
 R:Option Addr × Nat
 K:Option Addr × Nat
 I:Option Addr × Nat
 C:Option Addr × Nat
structure G8 (w:World) (b o:Nat) (M:A7) (S:C8):Prop where
 half:w.cell? ⟨b,o,none⟩=some (.int .i64 M.half)
 old:w.cell? ⟨b,o+1,none⟩=some (.int .i64 M.old)
 card:w.cell? ⟨b,o+2,none⟩=some (.int .i64 M.card)
 W:w.cell? ⟨b,o+3,none⟩=some (.slice S.W.1 M.W.length S.W.2)
 used:w.cell? ⟨b,o+4,none⟩=some (.int .i64 M.used)
 top:w.cell? ⟨b,o+5,none⟩=some (.int .i64 M.top)
 oldTop:w.cell? ⟨b,o+6,none⟩=some (.int .i64 M.oldTop)
 roots:w.cell? ⟨b,o+7,none⟩=some (.slice S.R.1 M.roots.length S.R.2)
 weak:w.cell? ⟨b,o+8,none⟩=some (.slice S.K.1 M.weak.length S.K.2)
 ids:w.cell? ⟨b,o+9,none⟩=some (.slice S.I.1 M.ids.length S.I.2)
 cards:w.cell? ⟨b,o+10,none⟩=some (.slice S.C.1 M.cards.length S.C.2)
 rW:F7 w S.W.1 (C5 M.W)
 rR:F7 w S.R.1 (C5 M.roots)
 rK:F7 w S.K.1 (C5 M.weak)
 rI:F7 w S.I.1 (G0 M.ids)
 rC:F7 w S.C.1 (R7 M.cards)
 capW:M.W.length≤S.W.2
 capR:M.roots.length≤S.R.2
 capK:M.weak.length≤S.K.2
 capI:M.ids.length≤S.I.2
 capC:M.cards.length≤S.C.2
 nilW:S.W.1=none→S.W.2=0
 nilR:S.R.1=none→S.R.2=0
 nilK:S.K.1=none→S.K.2=0
 nilI:S.I.1=none→S.I.2=0
 nilC:S.C.1=none→S.C.2=0
 ok:M.Ok
theorem G8.ext {w w':World} {b o:Nat} {M:A7} {S:C8} (h:G8 w b o M S) (hx:A0 w w'):G8 w' b o M S :=
 ⟨hx.cell_ h.half,hx.cell_ h.old,hx.cell_ h.card,hx.cell_ h.W,hx.cell_ h.used,hx.cell_ h.top,hx.cell_ h.oldTop,hx.cell_ h.roots,hx.cell_ h.weak,hx.cell_ h.ids,hx.cell_ h.cards,
  h.rW.ext hx,h.rR.ext hx,h.rK.ext hx,h.rI.ext hx,h.rC.ext hx,h.capW,h.capR,h.capK,h.capI,h.capC,h.nilW,h.nilR,h.nilK,h.nilI,h.nilC,h.ok⟩
theorem G8.lt {w:World} {b o:Nat} {M:A7} {S:C8} (h:G8 w b o M S):b<w.heap.size:=B9 h.half
def H0 (a lo hi:Int):Bool:=decide (lo≤a)&&decide (a≤hi)
theorem P0 {a lo hi:Int}:H0 a lo hi=true↔lo≤a∧a≤hi:=by simp[H0]
def P1 (M:A7):Bool :=
 H0 M.half 1 65536&&H0 M.old 1 65536&&H0 M.card 1 1024&&((M.W.length:Int)==2*M.half+M.old)&&H0 M.used 0 1&&H0 M.top 0 M.half&&H0 M.oldTop 0 M.old&&((M.cards.length:Int)==(M.old+M.card-1)/M.card)
def A6 (W:List Int) (i:Nat):Int:=W.getD i 0
structure Ob where
 a:Nat
 w:Int
def Ob.n (o:Ob):Nat:=(B5 o.w).toNat
def objs (W:List Int) (to:Nat):Nat→Nat→List Ob × Bool
 | 0,_=>([],true)
 | f+1,a =>
  if a<to then
   if P7 (A6 W a)&&decide (a+1+(B5 (A6 W a)).toNat≤to) then
    (⟨a,A6 W a⟩::(objs W to f (a+1+(B5 (A6 W a)).toNat)).1,(objs W to f (a+1+(B5 (A6 W a)).toNat)).2)
   else ([],false)
  else ([],true)
def part (W:List Int) (a to:Nat):List Ob × Bool:=objs W to (to-a) a
theorem C9v (W:List Int) (to:Nat):∀ f g a:Nat,to-a≤f→to-a≤g→objs W to f a=objs W to g a
 | 0,0,_,_,_=>rfl
 | 0,g+1,a,h,_=>by
  have h1:¬a<to:=by omega
  simp[objs,h1]
 | f+1,0,a,_,h=>by
  have h1:¬a<to:=by omega
  simp[objs,h1]
 | f+1,g+1,a,h1,h2=>by
  unfold objs
  split
  ·split
   ·rw[C9v W to f g _ (by omega) (by omega)]
   ·rfl
  ·rfl
theorem B4r (W:List Int) (a to:Nat) (h:to≤a):part W a to=([],true):=by
 unfold part;rw[show to-a=0 by omega];rfl
theorem B0u (W:List Int) (a to:Nat) (h:a<to) (hb:(P7 (A6 W a)&&decide (a+1+(B5 (A6 W a)).toNat≤to))=false):part W a to=([],false):=by
 unfold part;obtain⟨k,hk⟩:∃ k,to-a=k+1:=⟨to-a-1,by omega⟩;rw[hk,objs,if_pos h,hb];rfl
theorem B4s (W:List Int) (a to:Nat) (h1:P7 (A6 W a)=true) (h2:a+1+(B5 (A6 W a)).toNat≤to) :
  part W a to=(⟨a,A6 W a⟩::(part W (a+1+(B5 (A6 W a)).toNat) to).1,(part W (a+1+(B5 (A6 W a)).toNat) to).2):=by
 unfold part;obtain⟨k,hk⟩:∃ k,to-a=k+1:=⟨to-a-1,by omega⟩;rw[hk,objs,if_pos (by omega),h1,decide_eq_true h2];simp only[Bool.and_self,if_true];rw[C9v W to k (to-(a+1+(B5 (A6 W a)).toNat)) _ (by omega) (by omega)]
structure A7r (W:List Int) (lo to:Nat) (o:Ob):Prop where
 w:o.w=A6 W o.a
 hd:P7 o.w=true
 lo:lo≤o.a
 to:o.a+1+o.n≤to
theorem C2b (W:List Int) (to:Nat):∀ (f a:Nat) (o:Ob),o∈(objs W to f a).1→A7r W a to o
 | 0,a,o,h=>by simp[objs] at h
 | f+1,a,o,h=>by
  unfold objs at h
  split at h
  ·split at h
   ·rename_i h1 h2;simp only[Bool.and_eq_true,decide_eq_true_eq] at h2;simp only[List.mem_cons] at h;rcases h with rfl|h
    ·exact⟨rfl,h2.1,Nat.le_refl _,h2.2⟩
    ·have:=C2b W to f _ o h;exact⟨this.w,this.hd,by have:=this.lo;omega,this.to⟩
   ·simp at h
  ·simp at h
theorem A7a {W:List Int} {a to:Nat} {o:Ob} (h:o∈(part W a to).1):A7r W a to o:=C2b W to _ a o h
structure A8 (L:Nat→Prop) (w w':World):Prop where
 os:w'.os=w.os
 tape:w'.tape=w.tape
 output:w'.output=w.output
 size:w.heap.size≤w'.heap.size
 block:∀ k,k<w.heap.size→¬L k→w'.heap[k]?=w.heap[k]?
theorem A8.refl (L:Nat→Prop) (w:World):A8 L w w:=⟨rfl,rfl,rfl,Nat.le_refl _,fun _ _ _=>rfl⟩
theorem A8.trans {L:Nat→Prop} {a b c:World} (h:A8 L a b) (k:A8 L b c):A8 L a c :=
 ⟨k.os.trans h.os,k.tape.trans h.tape,k.output.trans h.output,Nat.le_trans h.size k.size,fun i hi hl=>(k.block i (Nat.lt_of_lt_of_le hi h.size) hl).trans (h.block i hi hl)⟩
theorem A8.then_ {L L':Nat→Prop} {a b c:World} (h:A8 L a b) (k:A8 L' b c) (hl:∀ i,i<a.heap.size→L' i→L i):A8 L a c :=
 ⟨k.os.trans h.os,k.tape.trans h.tape,k.output.trans h.output,Nat.le_trans h.size k.size,fun i hi hn=>(k.block i (Nat.lt_of_lt_of_le hi h.size) (fun e=>hn (hl i hi e))).trans (h.block i hi hn)⟩
theorem A8.of_ext {L:Nat→Prop} {w w':World} (h:A0 w w'):A8 L w w':=⟨h.os,h.tape,h.output,h.size,fun k hk _=>h.block k hk⟩
theorem A8.ext_ {L:Nat→Prop} {a b c:World} (h:A8 L a b) (k:A0 b c):A8 L a c:=h.trans (A8.of_ext k)
theorem A8.alloc_ {L:Nat→Prop} {a b:World} (h:A8 L a b) (o:Obj):A8 L a (b.alloc o):=h.ext_ ((A0.refl b).alloc_ o)
theorem A8.drew_ {L:Nat→Prop} {a b:World} (h:A8 L a b):A8 L a b.drew:=h.ext_ (A0.refl b).drew_
theorem A8.drewN_ {L:Nat→Prop} {a b:World} (h:A8 L a b) (n:Nat):A8 L a (b.drewN n):=h.ext_ (Y0 b n)
theorem A8.set_ {L:Nat→Prop} {a b:World} (h:A8 L a b) {p:Addr} (hp:L p.block∨a.heap.size≤p.block) (u:Value):A8 L a (b.setCell p u) :=
 ⟨h.os,h.tape,h.output,by simpa [World.setCell] using h.size,fun k hk hl=>by
  rw[Below.heap_setCell _ _ _ _ (fun e=>by subst e;rcases hp with hp|hp;exact hl hp;omega)];exact h.block k hk hl⟩
theorem A8.of_but {w w':World} {b:Nat} (h:But b w w'):A8 (·=b) w w':=⟨h.os,h.tape,h.output,Nat.le_of_eq h.size.symm,fun k _ hl=>h.block k hl⟩
theorem A8.of_grown {L:Nat→Prop} {w w':World} {row:Option Nat} (h:w.grownBy w' row) (hr:∀ k,row=some k→L k∨w.heap.size≤k):A8 L w w' :=
 ⟨h.os,h.tape,h.output,h.size,fun k hk hl=>h.block k hk (fun e=>by rcases hr k e.symm with g|g;exact hl g;omega)⟩
theorem A8.below {L:Nat→Prop} {w w':World} {B:Nat} (h:A8 L w w') (hB:B≤w.heap.size) (hl:∀ k,k<B→¬L k):Below B w w' :=
 ⟨h.os,h.tape,h.output,h.size,fun k hk=>h.block k (by omega) (hl k hk)⟩
theorem A0.keep {L:Nat→Prop} {a b c:World} (h:A0 a b) (k:A8 L b c) (hl:∀ i,L i→a.heap.size≤i):A0 a c :=
 Below.trans h (k.below h.size fun i hi e=>by have:=hl i e;omega)
theorem A8.cell {L:Nat→Prop} {w w':World} (h:A8 L w w') {p:Addr} {v:Value} (hp:¬L p.block) (hc:w.cell? p=some v):w'.cell? p=some v:=by
 rw[World.cell?_of_block (w:=w) (h.block p.block (B9 hc) hp)];exact hc
theorem A8.frozen {L:Nat→Prop} {w w':World} (h:A8 L w w') {p:Addr} (hp:¬L p.block) (hlt:p.block<w.heap.size):w'.frozen? p=w.frozen? p :=
 World.frozen?_of_block (w:=w) (h.block p.block hlt hp)
theorem N8.keep {L:Nat→Prop} {w w':World} {b:Nat} {q:IntKind} {es:List (Int × Value)} (h:N8 w b q es) (k:A8 L w w') (hb:¬L b):N8 w' b q es :=
 h.of_block (k.block b h.lt hb)
theorem F7.keep {L:Nat→Prop} {w w':World} {a:Option Addr} {cs:List Value} (h:F7 w a cs) (k:A8 L w w') (hl:∀ x,a=some x→¬L x.block):F7 w' a cs:=fun j u hu=>by
 obtain⟨b,off,ha,hc⟩:=h j u hu;exact⟨b,off,ha,k.cell (p:=⟨b,off+j,none⟩) (hl ⟨b,off,none⟩ ha) hc⟩
def N9 (w:World) (b:Nat) (q:IntKind) (st:List Int):Prop :=
 ∃ es,N8 w b q es∧∀ k:Int,Y7 es k=if st.contains k=true then some (.bool true) else none
theorem N9.keep {L:Nat→Prop} {w w':World} {b:Nat} {q:IntKind} {st:List Int} (h:N9 w b q st) (k:A8 L w w') (hb:¬L b):N9 w' b q st:=by
 obtain⟨es,hm,hg⟩:=h;exact⟨es,hm.keep k hb,hg⟩
theorem N9.ext {w w':World} {b:Nat} {q:IntKind} {st:List Int} (h:N9 w b q st) (k:A0 w w'):N9 w' b q st:=by
 obtain⟨es,hm,hg⟩:=h;exact⟨es,hm.ext k,hg⟩
theorem N9.lt {w:World} {b:Nat} {q:IntKind} {st:List Int} (h:N9 w b q st):b<w.heap.size:=by
 obtain⟨es,hm,_⟩:=h;exact hm.lt
theorem N9.made (w:World) (q:IntKind):N9 (w.alloc (.map #[] 0)) w.heap.size q []:=⟨[],N8.made w q,fun k=>by simp[Y7]⟩
theorem N9.put {w':World} {b:Nat} {q:IntKind} {es:List (Int × Value)} {st:List Int} (a:Int) (hg:∀ k:Int,Y7 es k=if st.contains k=true then some (.bool true) else none)
  (h:N8 w' b q (A1z es a (.bool true))):N9 w' b q (st++[a]) :=
 ⟨_,h,fun k=>by
  by_cases e:k=a
  ·subst e;rw[E6d];simp
  ·rw[E6c _ _ _ _ e,hg k];have:(k==a)=false:=by simpa using e
   simp[List.contains_eq_any_beq,this,e]⟩
theorem B4x {P:Program} {t e:TypeId} (ht:P.underlying t=some (.slice e)) (hz:∀ w,(sizeOf e).run P w=.ok 1 w) (b off len cap l h:Nat) (i j:Int) (hi:i=(l:Int)) (hj:j=(h:Int)) (hl:l≤h) (hh:h≤cap) :
  ∃ A C,(∀ w':World,(Instr.slice t (.slice (some ⟨b,off,none⟩) len cap) (some (.int .i64 i)) (some (.int .i64 j)) none).run P w'=.ok (.slice A (h-l) C) w')∧h-l≤C∧A≠none ∧
   ∀ (w:World) (cs:List Value),F7 w (some ⟨b,off,none⟩) cs→F7 w A ((cs.drop l).take (h-l)):=by
 have he:P.elem t=e:=by simp[Program.elem,ht]
 have ht':P.underlying t=some (.slice (P.elem t)):=by rw[he];exact ht
 refine⟨if cap=l then some ⟨b,off,none⟩ else some ⟨b,off+l,none⟩,cap-l,fun w'=>?_,by omega,?_,fun w cs hR=>?_⟩
 ·subst hi hj;rw[run_slice_lh w' t (some ⟨b,off,none⟩) len cap ht' .i64 .i64 (l:Int) (h:Int) (by omega) (by omega) (by omega),he,hz];simp[Result.andThen,sliced,Addr.add]
  split
  ·rfl
  ·split
   ·rename_i h0;subst h0;simp
   ·rfl
 ·split<;>simp
 ·split
  ·have:h-l=0:=by omega
   rw[this,List.take_zero];exact F7.nil _ _
  ·intro k u hu;rw[List.getElem?_take] at hu
   split at hu
   ·rw[List.getElem?_drop] at hu;obtain⟨b',off',ha,hc⟩:=hR _ _ hu;injection ha with ha;injection ha with h1 h2;subst h1 h2;exact⟨b,off+l,rfl,by rw[show off+l+k=off+(l+k) by omega];exact hc⟩
   ·cases hu
structure G2 (M:A7):Prop where
 h1:1≤M.half
 h2:M.half≤65536
 o1:1≤M.old
 o2:M.old≤65536
 c1:1≤M.card
 c2:M.card≤1024
 w:(M.W.length:Int)=2*M.half+M.old
 u1:0≤M.used
 u2:M.used≤1
 t1:0≤M.top
 t2:M.top≤M.half
 p1:0≤M.oldTop
 p2:M.oldTop≤M.old
 cl:(M.cards.length:Int)=(M.old+M.card-1)/M.card
theorem A9r {M:A7} (h:P1 M=true):G2 M:=by
 simp only[P1,Bool.and_eq_true,P0,beq_iff_eq] at h;obtain⟨⟨⟨⟨⟨⟨⟨⟨a1,a2⟩,b1,b2⟩,c1,c2⟩,d⟩,e1,e2⟩,f1,f2⟩,g1,g2⟩,k⟩:=h;exact⟨a1,a2,b1,b2,c1,c2,d,e1,e2,f1,f2,g1,g2,k⟩
def A7.base (M:A7):Nat:=(M.used*M.half).toNat
theorem G2.base {M:A7} (h:G2 M):M.used*M.half=(M.base:Int)∧0≤M.used*M.half∧M.used*M.half≤M.half:=by
 obtain⟨h1,h2,_,_,_,_,_,u1,u2,_,_,_,_,_⟩:=h;have hu:M.used=0∨M.used=1:=by omega
 unfold A7.base;rcases hu with e|e<;>rw[e]<;>omega
theorem G2.card {M:A7} (h:G2 M) (a:Int) (h1:2*M.half≤a) (h2:a<2*M.half+M.old) :
  0≤(a-2*M.half)/M.card∧(a-2*M.half)/M.card<(M.cards.length:Int):=by
 have c1:=h.c1;rw[h.cl];refine⟨Int.ediv_nonneg (by omega) (by omega),?_⟩;have h3:(a-2*M.half)/M.card≤(M.old-1)/M.card:=Int.ediv_le_ediv (by omega) (by omega);have h4:(M.old+M.card-1)/M.card=(M.old-1)/M.card+1:=by
  rw[show M.old+M.card-1=(M.old-1)+1*M.card by omega,Int.add_mul_ediv_right _ _ (by omega)]
 omega
section
variable {P:Program} {w:World}
theorem F0x (t ty:TypeId) (base:Nat) (e:TypeId) (i:TypeInfo) (z:Value) (size bytes:Nat) (ht:P.underlying t=some (.slice e)) (hi:P.info? e=some i) (hz:i.zero=some z)
  (hsize:i.size=size) (hby:i.bytes=bytes) (hzs:z.cells.size=size) (hsz:0<size)
  (v:Value) (n:Nat) (xs:List Value) (hown:w.ownsRow base e size v n xs)
  (ad:Option Addr) (m c:Nat) (news:List Value) (hnil:ad=none→c=0) (hmc:m≤c) (hl:news.length=m*size) (hR:F7 w ad news) (h1:∀ u∈news,u.oneCell'=true)
  (h63:n+m≤maxLen) (hbytes:(n+m)*bytes≤140737488355328) (hbase:base≤w.heap.size) :
  ∃ a' c' w',(Builtin.append_ #[t,t] ty #[v,.slice ad m c]).run P w=.ok (.slice a' (n+m) c') w' ∧
   w'.ownsRow base e size (.slice a' (n+m) c') (n+m) (xs++news)∧w.grownBy w' v.ownBlock∧((Value.slice a' (n+m) c').ownBlock=v.ownBlock∨(Value.slice a' (n+m) c').ownBlock=some w.heap.size):=by
 cases ad with
 | none =>
  obtain rfl:=hnil rfl;obtain rfl:m=0:=by omega
  obtain rfl:news=[]:=List.eq_nil_of_length_eq_zero (by simpa using hl);have hr:=run_append_owned_none (P:=P) (w:=w) base t ty e i size ht hi v n xs hown;have hv:∃ a' c',v=.slice a' n c':=by
   rcases hown.2 with⟨rfl,rfl⟩|⟨g,cap,cur,rfl,_⟩
   ·exact⟨_,_,rfl⟩
   ·exact⟨_,_,rfl⟩
  obtain⟨a',c',rfl⟩:=hv;exact⟨a',c',w,hr,by simpa using hown,⟨rfl,rfl,rfl,Nat.le_refl _,fun _ _ _=>rfl⟩,Or.inl rfl⟩
 | some p =>
  have hnews:∀ j u,news[j]?=some u→w.cell? (p.add j)=some u:=fun j u hu=>by
   obtain⟨b,off,hp,hc⟩:=hR j u hu;injection hp with hp;subst hp;have e:(⟨b,off,none⟩:Addr).add j=⟨b,off+j,none⟩:=by unfold Addr.add;split<;>simp_all
   rw[e];exact hc
  obtain⟨v',w',hr,h2,h3,_,h5⟩:=run_append_own_at (P:=P) w base t ty e i z size bytes ht hi hz hsize hby hzs hsz v n xs hown p m c news hl hnews h1 h63 hbytes hbase;have hv:∃ a' c',v'=.slice a' (n+m) c':=by
   rcases h2.2 with⟨rfl,h0⟩|⟨g,cap,cur,rfl,_⟩
   ·rw[h0];exact⟨_,_,rfl⟩
   ·exact⟨_,_,rfl⟩
  obtain⟨a',c',rfl⟩:=hv;exact⟨a',c',w',hr,h2,h3,h5⟩
theorem D3i {o:Oper} {a:Act} {K:Act→World→Prop} {Q:Exit→Act→World→Prop} (s x:Operand) (t:TypeId)
  (ho:o.op=.call {callee:=.builtin .append,args:=#[s,x],argTypes:=#[t,t]})
  (base:Nat) (e:TypeId) (i:TypeInfo) (z:Value) (size bytes:Nat) (ht:P.underlying t=some (.slice e)) (hi:P.info? e=some i) (hz:i.zero=some z)
  (hsize:i.size=size) (hby:i.bytes=bytes) (hzs:z.cells.size=size) (hsz:0<size)
  (v:Value) (n:Nat) (xs:List Value) (hs:a.eval s=v) (hown:w.ownsRow base e size v n xs)
  (ad:Option Addr) (m c:Nat) (news:List Value) (hx:a.eval x=.slice ad m c) (hnil:ad=none→c=0) (hmc:m≤c) (hl:news.length=m*size) (hR:F7 w ad news) (h1:∀ u∈news,u.oneCell'=true)
  (h63:n+m≤maxLen) (hbytes:(n+m)*bytes≤140737488355328) (hbase:base≤w.heap.size)
  (h:∀ a' c' w',w'.ownsRow base e size (.slice a' (n+m) c') (n+m) (xs++news)→w.grownBy w' v.ownBlock→((Value.slice a' (n+m) c').ownBlock=v.ownBlock∨(Value.slice a' (n+m) c').ownBlock=some w.heap.size) →
   K (a.put o.dst (.slice a' (n+m) c')) w'):o.wp P a w K Q:=by
 obtain⟨a',c',w',hr,h2,h3,h4⟩:=F0x (P:=P) (w:=w) t o.type base e i z size bytes ht hi hz hsize hby hzs hsz v n xs hown ad m c news hnil hmc hl hR h1 h63 hbytes hbase;unfold Oper.wp execOp;simp only[ho,resolve,invoke,builtin,Sem.run_bind,Sem.run_pure,Result.andThen_ok,List.map_toArray,Zc,List.map_nil,hs,hx,hr];exact h a' c' w' h2 h3 h4
theorem A5e {ops:Array Oper} {rest:List Oper} {o:Oper} {a:Act} {Q:Exit→Act→World→Prop} (hgd:o.guard=none) (s x:Operand) (t:TypeId)
  (ho:o.op=.call {callee:=.builtin .append,args:=#[s,x],argTypes:=#[t,t]})
  (base:Nat) (e:TypeId) (i:TypeInfo) (z:Value) (size bytes:Nat) (ht:P.underlying t=some (.slice e)) (hi:P.info? e=some i) (hz:i.zero=some z)
  (hsize:i.size=size) (hby:i.bytes=bytes) (hzs:z.cells.size=size) (hsz:0<size)
  (v:Value) (n:Nat) (xs:List Value) (hs:a.eval s=v) (hown:w.ownsRow base e size v n xs)
  (ad:Option Addr) (m c:Nat) (news:List Value) (hx:a.eval x=.slice ad m c) (hnil:ad=none→c=0) (hmc:m≤c) (hl:news.length=m*size) (hR:F7 w ad news) (h1:∀ u∈news,u.oneCell'=true)
  (h63:n+m≤maxLen) (hbytes:(n+m)*bytes≤140737488355328) (hbase:base≤w.heap.size)
  (h:∀ a' c' w',w'.ownsRow base e size (.slice a' (n+m) c') (n+m) (xs++news)→w.grownBy w' v.ownBlock→((Value.slice a' (n+m) c').ownBlock=v.ownBlock∨(Value.slice a' (n+m) c').ownBlock=some w.heap.size) →
   wpList P ops Q rest (a.put o.dst (.slice a' (n+m) c')) w'):wpList P ops Q (o::rest) a w :=
 wpList_plain hgd fun _ hK=>D3i s x t ho base e i z size bytes ht hi hz hsize hby hzs hsz v n xs hs hown ad m c news hx hnil hmc hl hR h1 h63 hbytes hbase fun a' c' w' h2 h3 h4=>hK _ _ (h a' c' w' h2 h3 h4)
theorem A5b {ops:Array Oper} {o:Oper} {a:Act} {K:Act→World→Prop} {Q:Exit→Act→World→Prop} {E:Prop} (hgd:o.guard=none) (s x:Operand) (t:TypeId)
  (ho:o.op=.call {callee:=.builtin .append,args:=#[s,x],argTypes:=#[t,t]})
  (base:Nat) (e:TypeId) (i:TypeInfo) (z:Value) (size bytes:Nat) (ht:P.underlying t=some (.slice e)) (hi:P.info? e=some i) (hz:i.zero=some z)
  (hsize:i.size=size) (hby:i.bytes=bytes) (hzs:z.cells.size=size) (hsz:0<size)
  (v:Value) (n:Nat) (xs:List Value) (hs:a.eval s=v) (hown:w.ownsRow base e size v n xs)
  (ad:Option Addr) (m c:Nat) (news:List Value) (hx:a.eval x=.slice ad m c) (hnil:ad=none→c=0) (hmc:m≤c) (hl:news.length=m*size) (hR:F7 w ad news) (h1:∀ u∈news,u.oneCell'=true)
  (h63:n+m≤maxLen) (hbytes:(n+m)*bytes≤140737488355328) (hbase:base≤w.heap.size)
  (h:∀ a' c' w',w'.ownsRow base e size (.slice a' (n+m) c') (n+m) (xs++news)→w.grownBy w' v.ownBlock→((Value.slice a' (n+m) c').ownBlock=v.ownBlock∨(Value.slice a' (n+m) c').ownBlock=some w.heap.size) →
   K (a.put o.dst (.slice a' (n+m) c')) w'):if Region.wanted o (yielded ops a.tmps)=true then Oper.wp P o a w K Q else E:=by
 have hw:Region.wanted o (yielded ops a.tmps)=true:=by simp[Region.wanted,hgd]
 rw[if_pos hw];exact D3i s x t ho base e i z size bytes ht hi hz hsize hby hzs hsz v n xs hs hown ad m c news hx hnil hmc hl hR h1 h63 hbytes hbase h
end
end Go.Proofs.YtelhoppfidibiaaGreatDoor
