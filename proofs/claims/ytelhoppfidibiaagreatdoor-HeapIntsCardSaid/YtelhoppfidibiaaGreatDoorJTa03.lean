/- Maps whose keys are of an integer kind, as lists of pairs in the order in which the keys came: what a look-up and a store do. Over any program. -/
import Derived.Test.YtelhoppfidibiaaGreatDoorJTa01
import Derived.Maps.OwnOps
import Derived.MapKept
import Derived.Test.YtelhoppfidibiaaGreatDoorJTa02
set_option linter.unusedSimpArgs false
set_option linter.unusedVariables false
set_option maxHeartbeats 1000000
namespace Go.Proofs.YtelhoppfidibiaaGreatDoor
open Go.RowKit
def mget (es:List (Int × Value)) (k:Int):Option Value:=(es.find? fun p=>k==p.1).map (·.2)
def mput:List (Int × Value)→Int→Value→List (Int × Value)
 | [],k,v=>[(k,v)]
 | (a,u)::es,k,v=>if k==a then (a,v)::es else (a,u)::mput es k v
theorem mget_mput_same (es:List (Int × Value)) (k:Int) (v:Value):mget (mput es k v) k=some v:=by
 induction es with
 | nil=>simp[mput,mget]
 | cons p es ih =>
  obtain⟨a,u⟩:=p
  simp only[mput]
  by_cases h:k=a
  ·subst h;simp[mget]
  ·have hb:(k==a)=false:=by simpa using h
   rw[hb]
   simp only[Bool.false_eq_true,if_false]
   have:mget ((a,u)::mput es k v) k=mget (mput es k v) k:=by simp[mget,List.find?_cons,hb]
   rw[this,ih]
theorem mget_mput_other (es:List (Int × Value)) (k j:Int) (v:Value) (hj:j≠k):mget (mput es k v) j=mget es j:=by
 induction es with
 | nil=>simp[mput,mget,hj]
 | cons p es ih =>
  obtain⟨a,u⟩:=p
  simp only[mput]
  by_cases h:k=a
  ·subst h
   have hb:(j==k)=false:=by simpa using hj
   simp[mget,List.find?_cons,hb]
  ·have hb:(k==a)=false:=by simpa using h
   rw[hb]
   simp only[Bool.false_eq_true,if_false]
   unfold mget at ih ⊢
   simp only[List.find?_cons]
   rcases hja:(j==a) with _|_
   ·simpa using ih
   ·rfl
def MapI (w:World) (b:Nat) (q:IntKind) (es:List (Int × Value)):Prop :=
 ∃ ents clock,w.heap[b]?=some (.map ents clock)∧ents.toList.map (fun e=>(e.key,e.val))=es.map (fun p=>(Value.int q p.1,p.2))
theorem MapI.lt {w:World} {b:Nat} {q:IntKind} {es:List (Int × Value)} (h:MapI w b q es):b<w.heap.size:=by
 obtain⟨ents,clock,hb,_⟩:=h
 rcases Nat.lt_or_ge b w.heap.size with g|g
 ·exact g
 ·simp[Array.getElem?_eq_none g] at hb
theorem MapI.of_block {w w':World} {b:Nat} {q:IntKind} {es:List (Int × Value)} (h:MapI w b q es) (he:w'.heap[b]?=w.heap[b]?):MapI w' b q es:=by
 obtain⟨ents,clock,hb,hm⟩:=h
 exact⟨ents,clock,he.trans hb,hm⟩
theorem MapI.ext {w w':World} {b:Nat} {q:IntKind} {es:List (Int × Value)} (h:MapI w b q es) (hx:Ext w w'):MapI w' b q es :=
 h.of_block (Below.block hx b h.lt)
theorem MapI.setCell {w:World} {b:Nat} {q:IntKind} {es:List (Int × Value)} (h:MapI w b q es) (p:Addr) (u:Value):MapI (w.setCell p u) b q es:=by
 obtain⟨ents,clock,hb,hm⟩:=h
 refine⟨ents,clock,?_,hm⟩
 simp only[World.setCell,Array.getElem?_modify]
 split
 ·rename_i e;subst e;simp[hb]
 ·exact hb
theorem MapI.drewN {w:World} {b:Nat} {q:IntKind} {es:List (Int × Value)} (h:MapI w b q es) (n:Nat):MapI (w.drewN n) b q es:=h
theorem MapI.made (w:World) (q:IntKind):MapI (w.alloc (.map #[] 0)) w.heap.size q [] :=
 ⟨#[],0,(MapKept.heap_alloc w _).1,rfl⟩
section
variable {P:Program} {w:World}
theorem findNow_int (q:IntKind) (k:Int):∀ (l:List MapEntry) (es:List (Int × Value)) (i:Nat),l.map (fun e=>(e.key,e.val))=es.map (fun p=>(Value.int q p.1,p.2)) →
  (∃ j v,Instr.findNow (.int q) (.int q k) l i=some (some (i+j,v))∧mget es k=some v∧(l.modify j fun e=>{e with val:=(default:Value)}).length=l.length∧j<l.length ∧
   ∀ u kk,kk=Value.int q k→(l.modify j fun e=>{e with key:=kk,val:=u}).map (fun e=>(e.key,e.val))=(mput es k u).map (fun p=>(Value.int q p.1,p.2))∧(l[j]?.map (·.key))=some (Value.int q k)) ∨
  (Instr.findNow (.int q) (.int q k) l i=some none∧mget es k=none∧∀ u,mput es k u=es++[(k,u)]):=by
 intro l
 induction l with
 | nil =>
  intro es i h
  obtain rfl:es=[]:=by simpa using h.symm
  exact Or.inr ⟨rfl,rfl,fun u=>rfl⟩
 | cons e l ih =>
  intro es i h
  match es,h with
  | [],h=>simp at h
  | (a,u0)::es,h =>
   simp only[List.map_cons,List.cons.injEq,Prod.mk.injEq] at h
   obtain⟨⟨hk,hv⟩,ht⟩:=h
   by_cases ha:k=a
   ·subst ha
    refine Or.inl ⟨0,e.val,?_,?_,?_,by simp,?_⟩
    ·simp[Instr.findNow,hk,Instr.sameNow]
    ·simp[mget,hv]
    ·simp
    ·intro u kk hkk
     refine⟨?_,by simp[hk]⟩
     simp[mput,hkk,ht]
   ·have hb:(k==a)=false:=by simpa using ha
    have hs:Instr.sameNow (.int q) (.int q k) e.key=some false:=by rw[hk];simp[Instr.sameNow,ha]
    have hf:∀ i,Instr.findNow (.int q) (.int q k) (e::l) i=Instr.findNow (.int q) (.int q k) l (i+1):=by
     intro i;simp only[Instr.findNow,hs]
    have hg:mget ((a,u0)::es) k=mget es k:=by simp[mget,List.find?_cons,hb]
    rcases ih es (i+1) ht with⟨j,v,h1,h2,_,h4,h5⟩|⟨h1,h2,h3⟩
    ·refine Or.inl ⟨j+1,v,by rw[hf,h1];simp;omega,by rw[hg,h2],by simp,by simp;omega,?_⟩
     intro u kk hkk
     have:=h5 u kk hkk
     refine⟨?_,by simpa using this.2⟩
     simp only[List.modify_succ_cons,List.map_cons,mput,hb,Bool.false_eq_true,if_false,hk,hv,this.1]
    ·exact Or.inr ⟨by rw[hf,h1],by rw[hg,h2],fun u=>by simp[mput,hb,h3 u]⟩
theorem checkKey_int {k:TypeId} {q:IntKind} (hk:P.underlying k=some (.int q)) (em:Bool) (v:Value) (w:World):(Instr.checkKey em 10000 k v).run P w=.ok () w:=by
 show (Instr.checkKey em (9999+1) k v).run P w=.ok () w
 unfold Instr.checkKey
 simp only[Sem.run_bind,run_underlying hk,Result.andThen]
 rfl
theorem run_lookup_mapi {t k e:TypeId} {q:IntKind} (ht:P.underlying t=some (.map k e)) (hk:P.underlying k=some (.int q)) {z:Value} (hz:(zeroValue e).run P w=.ok z w)
  {b:Nat} {es:List (Int × Value)} (hm:MapI w b q es) (x:Int) (c:Bool) :
  (Instr.lookup t (.map (some b)) (.int q x) c).run P w=.ok (if c then .tuple #[(mget es x).getD z,.bool (mget es x).isSome] else (mget es x).getD z) w:=by
 obtain⟨ents,clock,hb,hl⟩:=hm
 rcases findNow_int q x ents.toList es 0 hl with⟨j,v,h1,h2,_⟩|⟨h1,h2,_⟩
 ·simp[Instr.lookup,run_underlying ht,MapKept.run_getObj_map hb,checkKey_int hk,Instr.findKey,run_underlying hk,h1,h2,Result.andThen]
 ·simp[Instr.lookup,run_underlying ht,MapKept.run_getObj_map hb,checkKey_int hk,Instr.findKey,run_underlying hk,h1,h2,hz,Result.andThen]
structure But (b:Nat) (w w':World):Prop where
 os:w'.os=w.os
 tape:w'.tape=w.tape
 output:w'.output=w.output
 size:w'.heap.size=w.heap.size
 block:∀ k,k≠b→w'.heap[k]?=w.heap[k]?
theorem run_update_mapi {t k e:TypeId} {q:IntKind} (ht:P.underlying t=some (.map k e)) (hk:P.underlying k=some (.int q))
  {b:Nat} {es:List (Int × Value)} (hm:MapI w b q es) (x:Int) (v:Value) :
  ∃ w',(Instr.mapUpdate t (.map (some b)) (.int q x) v).run P w=.ok () w'∧MapI w' b q (mput es x v)∧But b w w':=by
 obtain⟨ents,clock,hb,hl⟩:=hm
 have hlt:b<w.heap.size:=(show MapI w b q es from ⟨ents,clock,hb,hl⟩).lt
 rcases findNow_int q x ents.toList es 0 hl with⟨j,v0,h1,h2,_,h4,h5⟩|⟨h1,h2,h3⟩
 ·obtain⟨h6,h7⟩:=h5 v (.int q x) rfl
  have hj:(ents[j]?).map (·.key)=some (Value.int q x):=by simpa using h7
  have hst:(Instr.keyThatStays (((ents[j]?).map (·.key)).getD (.int q x)) (.int q x)).run P w=.ok (.int q x) w:=by
   rw[hj];simp[Instr.keyThatStays,Instr.sameBits]
  refine⟨{w with heap:=w.heap.setIfInBounds b (.map (ents.modify j fun e=>{e with key:=.int q x,val:=v}) clock)},?_,?_,?_⟩
  ·simp[Instr.mapUpdate,run_underlying ht,MapKept.run_getObj_map hb,checkKey_int hk,Instr.findKey,run_underlying hk,h1,hst,MapKept.run_setObj_map _ hb,Result.andThen]
  ·refine⟨ents.modify j fun e=>{e with key:=.int q x,val:=v},clock,by simp[Array.getElem?_setIfInBounds,hlt],?_⟩
   simpa using h6
  ·refine⟨rfl,rfl,rfl,by simp,fun i hi=>?_⟩
   simp only[Array.getElem?_setIfInBounds];rw[if_neg (fun e=>hi e.symm)]
 ·refine⟨{w with heap:=w.heap.setIfInBounds b (.map (ents.push {key:=.int q x,val:=v,born:=clock}) (clock+1))},?_,?_,?_⟩
  ·simp[Instr.mapUpdate,run_underlying ht,MapKept.run_getObj_map hb,checkKey_int hk,Instr.findKey,run_underlying hk,h1,MapKept.run_setObj_map _ hb,Result.andThen]
  ·refine⟨ents.push {key:=.int q x,val:=v,born:=clock},clock+1,by simp[Array.getElem?_setIfInBounds,hlt],?_⟩
   simp[h3 v,hl]
  ·refine⟨rfl,rfl,rfl,by simp,fun i hi=>?_⟩
   simp only[Array.getElem?_setIfInBounds];rw[if_neg (fun e=>hi e.symm)]
end
theorem toHead_bits (a:Int) (h0:0≤a) (h1:a≤18446744073709551615) :
  wrap64 (bits .and .u64 (a/4) 255)=hKind a∧wrap64 (bits .and .u64 (a/1024) 15)=hAge a∧wrap64 (bits .and .u64 (a/16384) 1)=hMark a∧wrap64 (bits .and .u64 (a/65536) 8191)=hSize a%8192:=by
 rw[and255 _ (by omega) (by omega),and15 _ (by omega) (by omega),and1 _ (by omega) (by omega),and8191 _ (by omega) (by omega)]
 rw[IntWalk.wrap64_in _ (by omega),IntWalk.wrap64_in _ (by omega),IntWalk.wrap64_in _ (by omega),IntWalk.wrap64_in _ (by omega)]
 exact⟨rfl,rfl,rfl,rfl⟩
theorem toHead_yes (a:Int) (h0:0≤a) (h1:a≤18446744073709551615) (h:isHd a=true) (w:World) :
  Calls Tryz.prog 56 #[.int .u64 a] w fun e w'=>e=.returned (.tuple #[.agg #[.int .i64 (hKind a),.int .i64 (hAge a),.int .i64 (hMark a),.int .i64 (hSize a)],.nilIface])∧Ext w w':=by
 obtain⟨b1,b2,b3,b4⟩:=toHead_bits a h0 h1
 have hin:=hd_in a h0
 have hsz:hSize a≤4096:=((isHd_iff a).1 h).2.2
 have b5:hSize a%8192=hSize a:=by omega
 rw[b5] at b4
 have hbk:=headW_back a h
 have k1:inB (hKind a) 255=true:=inB_true.2 (by omega)
 have k2:inB (hAge a) 15=true:=inB_true.2 (by omega)
 have k3:inB (hMark a) 1=true:=inB_true.2 (by omega)
 have k4:inB (hSize a) 4096=true:=inB_true.2 (by omega)
 clear hin hsz b5 h
 go_enter Tryz.func56,Tryz.ntmps56
 go_wp2_with (go_at_call 115;refine (ofHead_yes _ _ _ _ k1 k2 k3 k4 _).mono ?_;rintro e w' ⟨rfl,hb⟩;obtain⟨hc,hf,hz⟩:=hb.three;simp at hz)
 have q0:w'.cell? ⟨w.heap.size,0,none⟩=some (.int .i64 0):=by rw[hc _ _ (by simp;omega)];simp[go_sem]
 have q1:w'.cell? ⟨w.heap.size,1,none⟩=some (.int .i64 0):=by rw[hc _ _ (by simp;omega)];simp[go_sem]
 have q2:w'.cell? ⟨w.heap.size,2,none⟩=some (.int .i64 0):=by rw[hc _ _ (by simp;omega)];simp[go_sem]
 have q3:w'.cell? ⟨w.heap.size,3,none⟩=some (.int .i64 0):=by rw[hc _ _ (by simp;omega)];simp[go_sem]
 exact bodyPost_ret (v:=.tuple #[.agg #[.int .i64 (hKind a),.int .i64 (hAge a),.int .i64 (hMark a),.int .i64 (hSize a)],.nilIface]) (by simp[results,Tryz.results56,go_sem,q0,q1,q2,q3]) rfl
  ⟨rfl,by repeat (first|exact (((Ext.refl _).alloc_ _).alloc_ _).trans_ hb|refine Ext.set_ ?_ (by simp) _)⟩
theorem toHead_no (a:Int) (h0:0≤a) (h1:a≤18446744073709551615) (h:isHd a=false) (w:World) (b s:Addr) (gb:GBound w b) (gs:GShape w s) :
  Calls Tryz.prog 56 #[.int .u64 a] w fun e w'=>e=.returned (.tuple #[.agg #[.int .i64 0,.int .i64 0,.int .i64 0,.int .i64 0],errV s])∧Ext w w':=by
 have hlb:=cell_lt gb
 have hls:=cell_lt gs
 simp only at hlb hls
 obtain⟨b1,b2,b3,b4⟩:=toHead_bits a h0 h1
 have hin:=hd_in a h0
 have k1:inB (hKind a) 255=true:=inB_true.2 (by omega)
 have k2:inB (hAge a) 15=true:=inB_true.2 (by omega)
 have k3:inB (hMark a) 1=true:=inB_true.2 (by omega)
 by_cases k4:inB (hSize a%8192) 4096=true
 ·have hne:headW (hKind a) (hAge a) (hMark a) (hSize a%8192)≠a:=fun e=>by
   rw[headW_only a e (inB_true.1 k4).2] at h;cases h
  have hne':(headW (hKind a) (hAge a) (hMark a) (hSize a%8192) != a)=true:=by simpa using hne
  clear hin h hne
  go_enter Tryz.func56,Tryz.ntmps56
  go_wp2_with (go_at_call 115;refine (ofHead_yes _ _ _ _ k1 k2 k3 k4 _).mono ?_;rintro e w' ⟨rfl,hb⟩;have gs2:=hb.cell_ ((((Ext.refl w).alloc_ _).alloc_ _).cell_ gs);obtain⟨hc,hf,hz⟩:=hb.three;simp at hz)
  have q0:w'.cell? ⟨w.heap.size,0,none⟩=some (.int .i64 0):=by rw[hc _ _ (by simp;omega)];simp[go_sem]
  have q1:w'.cell? ⟨w.heap.size,1,none⟩=some (.int .i64 0):=by rw[hc _ _ (by simp;omega)];simp[go_sem]
  have q2:w'.cell? ⟨w.heap.size,2,none⟩=some (.int .i64 0):=by rw[hc _ _ (by simp;omega)];simp[go_sem]
  have q3:w'.cell? ⟨w.heap.size,3,none⟩=some (.int .i64 0):=by rw[hc _ _ (by simp;omega)];simp[go_sem]
  have q4:w'.frozen? ⟨w.heap.size,0,none⟩=false:=by rw[hf _ _ (by simp;omega)];simp[go_sem]
  have q5:w'.frozen? ⟨w.heap.size,1,none⟩=false:=by rw[hf _ _ (by simp;omega)];simp[go_sem]
  have q6:w'.frozen? ⟨w.heap.size,2,none⟩=false:=by rw[hf _ _ (by simp;omega)];simp[go_sem]
  have q7:w'.frozen? ⟨w.heap.size,3,none⟩=false:=by rw[hf _ _ (by simp;omega)];simp[go_sem]
  go_region
  all_goals go_wp2
  all_goals refine bodyPost_ret (v:=.tuple #[.agg #[.int .i64 0,.int .i64 0,.int .i64 0,.int .i64 0],errV s]) (by simp[results,Tryz.results56,go_sem,q0,q1,q2,q3]) rfl ⟨rfl,?_⟩
  all_goals repeat (first|exact (((Ext.refl _).alloc_ _).alloc_ _).trans_ hb|refine Ext.drew_ ?_|refine Ext.set_ ?_ (by simp) _)
 ·have k4':inB (hSize a%8192) 4096=false:=by simpa using k4
  clear hin h k4
  go_enter Tryz.func56,Tryz.ntmps56
  go_wp2_with (go_at_call 115;refine (ofHead_no _ _ _ _ (by simp[k4']) _ b ((((Ext.refl w).alloc_ _).alloc_ _).cell_ gb)).mono ?_;rintro e w' ⟨rfl,hb⟩;have gs2:=hb.cell_ ((((Ext.refl w).alloc_ _).alloc_ _).cell_ gs);obtain⟨hc,hf,hz⟩:=hb.three;simp at hz)
  have q0:w'.cell? ⟨w.heap.size,0,none⟩=some (.int .i64 0):=by rw[hc _ _ (by simp;omega)];simp[go_sem]
  have q1:w'.cell? ⟨w.heap.size,1,none⟩=some (.int .i64 0):=by rw[hc _ _ (by simp;omega)];simp[go_sem]
  have q2:w'.cell? ⟨w.heap.size,2,none⟩=some (.int .i64 0):=by rw[hc _ _ (by simp;omega)];simp[go_sem]
  have q3:w'.cell? ⟨w.heap.size,3,none⟩=some (.int .i64 0):=by rw[hc _ _ (by simp;omega)];simp[go_sem]
  have q4:w'.frozen? ⟨w.heap.size,0,none⟩=false:=by rw[hf _ _ (by simp;omega)];simp[go_sem]
  have q5:w'.frozen? ⟨w.heap.size,1,none⟩=false:=by rw[hf _ _ (by simp;omega)];simp[go_sem]
  have q6:w'.frozen? ⟨w.heap.size,2,none⟩=false:=by rw[hf _ _ (by simp;omega)];simp[go_sem]
  have q7:w'.frozen? ⟨w.heap.size,3,none⟩=false:=by rw[hf _ _ (by simp;omega)];simp[go_sem]
  go_region
  all_goals go_wp2
  all_goals refine bodyPost_ret (v:=.tuple #[.agg #[.int .i64 0,.int .i64 0,.int .i64 0,.int .i64 0],errV s]) (by simp[results,Tryz.results56,go_sem,q0,q1,q2,q3]) rfl ⟨rfl,?_⟩
  all_goals repeat (first|exact (((Ext.refl _).alloc_ _).alloc_ _).trans_ hb|refine Ext.drew_ ?_|refine Ext.set_ ?_ (by simp) _)
structure Mem where
 half:Int
 old:Int
 card:Int
 W:List Int
 used:Int
 top:Int
 oldTop:Int
 roots:List Int
 weak:List Int
 ids:List (Int × Int)
 cards:List Bool
structure Mem.Ok (M:Mem):Prop where
 half:-9223372036854775808≤M.half∧M.half≤9223372036854775807
 old:-9223372036854775808≤M.old∧M.old≤9223372036854775807
 card:-9223372036854775808≤M.card∧M.card≤9223372036854775807
 used:-9223372036854775808≤M.used∧M.used≤9223372036854775807
 top:-9223372036854775808≤M.top∧M.top≤9223372036854775807
 oldTop:-9223372036854775808≤M.oldTop∧M.oldTop≤9223372036854775807
 W:∀ x∈M.W,0≤x∧x≤18446744073709551615
 roots:∀ x∈M.roots,0≤x∧x≤18446744073709551615
 weak:∀ x∈M.weak,0≤x∧x≤18446744073709551615
 ids:∀ x∈M.ids,(0≤x.1∧x.1≤18446744073709551615)∧(-9223372036854775808≤x.2∧x.2≤9223372036854775807)
 lenW:M.W.length≤9223372036854775807
 lenR:M.roots.length≤9223372036854775807
 lenK:M.weak.length≤9223372036854775807
 lenI:M.ids.length≤9223372036854775807
 lenC:M.cards.length≤9223372036854775807
def wcells (l:List Int):List Value:=l.map fun x=>Value.int .u64 x
def icells (l:List (Int × Int)):List Value:=l.flatMap fun x=>[Value.int .u64 x.1,Value.int .i64 x.2]
def bcells (l:List Bool):List Value:=l.map fun x=>Value.bool x
def RSl (w:World) (a:Option Addr) (cs:List Value):Prop :=
 ∀ j u,cs[j]?=some u→∃ b off,a=some ⟨b,off,none⟩∧w.cell? ⟨b,off+j,none⟩=some u
theorem RSl.ext {w w':World} {a:Option Addr} {cs:List Value} (h:RSl w a cs) (hx:Ext w w'):RSl w' a cs:=fun j u hu=>by
 obtain⟨b,off,ha,hc⟩:=h j u hu
 exact⟨b,off,ha,hx.cell_ hc⟩
theorem RSl.nil (w:World) (a:Option Addr):RSl w a []:=fun j u h=>by simp at h
theorem RSl.at_ {w:World} {b off:Nat} {cs:List Value} (h:RSl w (some ⟨b,off,none⟩) cs) {j:Nat} {u:Value} (hu:cs[j]?=some u):w.cell? ⟨b,off+j,none⟩=some u:=by
 obtain⟨b',off',ha,hc⟩:=h j u hu
 injection ha with ha;injection ha with h1 h2
 subst h1 h2;exact hc
structure Sls where
 W:Option Addr × Nat
 R:Option Addr × Nat
 K:Option Addr × Nat
 I:Option Addr × Nat
 C:Option Addr × Nat
structure RMem (w:World) (b o:Nat) (M:Mem) (S:Sls):Prop where
 half:w.cell? ⟨b,o,none⟩=some (.int .i64 M.half)
 old:w.cell? ⟨b,o+1,none⟩=some (.int .i64 M.old)
 card:w.cell? ⟨b,o+2,none⟩=some (.int .i64 M.card)
 W:w.cell? ⟨b,o+3,none⟩=some (.slice S.W.1 M.W.length S.W.2)
 used:w.cell? ⟨b,o+4,none⟩=some (.int .i64 M.used)
 top:w.cell? ⟨b,o+5,none⟩=some (.int .i64 M.top)
 oldTop:w.cell? ⟨b,o+6,none⟩=some (.int .i64 M.oldTop)
 roots:w.cell? ⟨b,o+7,none⟩=some (.slice S.R.1 M.roots.length S.R.2)
 weak:w.cell? ⟨b,o+8,none⟩=some (.slice S.K.1 M.weak.length S.K.2)
 ids:w.cell? ⟨b,o+9,none⟩=some (.slice S.I.1 M.ids.length S.I.2)
 cards:w.cell? ⟨b,o+10,none⟩=some (.slice S.C.1 M.cards.length S.C.2)
 rW:RSl w S.W.1 (wcells M.W)
 rR:RSl w S.R.1 (wcells M.roots)
 rK:RSl w S.K.1 (wcells M.weak)
 rI:RSl w S.I.1 (icells M.ids)
 rC:RSl w S.C.1 (bcells M.cards)
 capW:M.W.length≤S.W.2
 capR:M.roots.length≤S.R.2
 capK:M.weak.length≤S.K.2
 capI:M.ids.length≤S.I.2
 capC:M.cards.length≤S.C.2
 nilW:S.W.1=none→S.W.2=0
 nilR:S.R.1=none→S.R.2=0
 nilK:S.K.1=none→S.K.2=0
 nilI:S.I.1=none→S.I.2=0
 nilC:S.C.1=none→S.C.2=0
 ok:M.Ok
theorem RMem.ext {w w':World} {b o:Nat} {M:Mem} {S:Sls} (h:RMem w b o M S) (hx:Ext w w'):RMem w' b o M S :=
 ⟨hx.cell_ h.half,hx.cell_ h.old,hx.cell_ h.card,hx.cell_ h.W,hx.cell_ h.used,hx.cell_ h.top,hx.cell_ h.oldTop,hx.cell_ h.roots,hx.cell_ h.weak,hx.cell_ h.ids,hx.cell_ h.cards,
  h.rW.ext hx,h.rR.ext hx,h.rK.ext hx,h.rI.ext hx,h.rC.ext hx,h.capW,h.capR,h.capK,h.capI,h.capC,h.nilW,h.nilR,h.nilK,h.nilI,h.nilC,h.ok⟩
theorem RMem.lt {w:World} {b o:Nat} {M:Mem} {S:Sls} (h:RMem w b o M S):b<w.heap.size:=cell_lt h.half
def inR (a lo hi:Int):Bool:=decide (lo≤a)&&decide (a≤hi)
theorem inR_true {a lo hi:Int}:inR a lo hi=true↔lo≤a∧a≤hi:=by simp[inR]
def shapeB (M:Mem):Bool :=
 inR M.half 1 65536&&inR M.old 1 65536&&inR M.card 1 1024&&((M.W.length:Int)==2*M.half+M.old)&&inR M.used 0 1&&inR M.top 0 M.half&&inR M.oldTop 0 M.old&&((M.cards.length:Int)==(M.old+M.card-1)/M.card)
def wat (W:List Int) (i:Nat):Int:=W.getD i 0
structure Ob where
 a:Nat
 w:Int
def Ob.n (o:Ob):Nat:=(hSize o.w).toNat
def objs (W:List Int) (to:Nat):Nat→Nat→List Ob × Bool
 | 0,_=>([],true)
 | f+1,a =>
  if a<to then
   if isHd (wat W a)&&decide (a+1+(hSize (wat W a)).toNat≤to) then
    (⟨a,wat W a⟩::(objs W to f (a+1+(hSize (wat W a)).toNat)).1,(objs W to f (a+1+(hSize (wat W a)).toNat)).2)
   else ([],false)
  else ([],true)
def part (W:List Int) (a to:Nat):List Ob × Bool:=objs W to (to-a) a
theorem objs_fuel (W:List Int) (to:Nat):∀ f g a:Nat,to-a≤f→to-a≤g→objs W to f a=objs W to g a
 | 0,0,_,_,_=>rfl
 | 0,g+1,a,h,_=>by
  have h1:¬a<to:=by omega
  simp[objs,h1]
 | f+1,0,a,_,h=>by
  have h1:¬a<to:=by omega
  simp[objs,h1]
 | f+1,g+1,a,h1,h2=>by
  unfold objs
  split
  ·split
   ·rw[objs_fuel W to f g _ (by omega) (by omega)]
   ·rfl
  ·rfl
theorem part_done (W:List Int) (a to:Nat) (h:to≤a):part W a to=([],true):=by
 unfold part
 rw[show to-a=0 by omega];rfl
theorem part_bad (W:List Int) (a to:Nat) (h:a<to) (hb:(isHd (wat W a)&&decide (a+1+(hSize (wat W a)).toNat≤to))=false):part W a to=([],false):=by
 unfold part
 obtain⟨k,hk⟩:∃ k,to-a=k+1:=⟨to-a-1,by omega⟩
 rw[hk,objs,if_pos h,hb];rfl
theorem part_next (W:List Int) (a to:Nat) (h1:isHd (wat W a)=true) (h2:a+1+(hSize (wat W a)).toNat≤to) :
  part W a to=(⟨a,wat W a⟩::(part W (a+1+(hSize (wat W a)).toNat) to).1,(part W (a+1+(hSize (wat W a)).toNat) to).2):=by
 unfold part
 obtain⟨k,hk⟩:∃ k,to-a=k+1:=⟨to-a-1,by omega⟩
 rw[hk,objs,if_pos (by omega),h1,decide_eq_true h2]
 simp only[Bool.and_self,if_true]
 rw[objs_fuel W to k (to-(a+1+(hSize (wat W a)).toNat)) _ (by omega) (by omega)]
structure ObIn (W:List Int) (lo to:Nat) (o:Ob):Prop where
 w:o.w=wat W o.a
 hd:isHd o.w=true
 lo:lo≤o.a
 to:o.a+1+o.n≤to
theorem objs_in (W:List Int) (to:Nat):∀ (f a:Nat) (o:Ob),o∈(objs W to f a).1→ObIn W a to o
 | 0,a,o,h=>by simp[objs] at h
 | f+1,a,o,h=>by
  unfold objs at h
  split at h
  ·split at h
   ·rename_i h1 h2
    simp only[Bool.and_eq_true,decide_eq_true_eq] at h2
    simp only[List.mem_cons] at h
    rcases h with rfl|h
    ·exact⟨rfl,h2.1,Nat.le_refl _,h2.2⟩
    ·have:=objs_in W to f _ o h
     exact⟨this.w,this.hd,by have:=this.lo;omega,this.to⟩
   ·simp at h
  ·simp at h
theorem part_in {W:List Int} {a to:Nat} {o:Ob} (h:o∈(part W a to).1):ObIn W a to o:=objs_in W to _ a o h
structure Keep (L:Nat→Prop) (w w':World):Prop where
 os:w'.os=w.os
 tape:w'.tape=w.tape
 output:w'.output=w.output
 size:w.heap.size≤w'.heap.size
 block:∀ k,k<w.heap.size→¬L k→w'.heap[k]?=w.heap[k]?
theorem Keep.refl (L:Nat→Prop) (w:World):Keep L w w:=⟨rfl,rfl,rfl,Nat.le_refl _,fun _ _ _=>rfl⟩
theorem Keep.trans {L:Nat→Prop} {a b c:World} (h:Keep L a b) (k:Keep L b c):Keep L a c :=
 ⟨k.os.trans h.os,k.tape.trans h.tape,k.output.trans h.output,Nat.le_trans h.size k.size,fun i hi hl=>(k.block i (Nat.lt_of_lt_of_le hi h.size) hl).trans (h.block i hi hl)⟩
theorem Keep.then_ {L L':Nat→Prop} {a b c:World} (h:Keep L a b) (k:Keep L' b c) (hl:∀ i,i<a.heap.size→L' i→L i):Keep L a c :=
 ⟨k.os.trans h.os,k.tape.trans h.tape,k.output.trans h.output,Nat.le_trans h.size k.size,fun i hi hn=>(k.block i (Nat.lt_of_lt_of_le hi h.size) (fun e=>hn (hl i hi e))).trans (h.block i hi hn)⟩
theorem Keep.of_ext {L:Nat→Prop} {w w':World} (h:Ext w w'):Keep L w w':=⟨h.os,h.tape,h.output,h.size,fun k hk _=>h.block k hk⟩
theorem Keep.ext_ {L:Nat→Prop} {a b c:World} (h:Keep L a b) (k:Ext b c):Keep L a c:=h.trans (Keep.of_ext k)
theorem Keep.alloc_ {L:Nat→Prop} {a b:World} (h:Keep L a b) (o:Obj):Keep L a (b.alloc o):=h.ext_ ((Ext.refl b).alloc_ o)
theorem Keep.drew_ {L:Nat→Prop} {a b:World} (h:Keep L a b):Keep L a b.drew:=h.ext_ (Ext.refl b).drew_
theorem Keep.drewN_ {L:Nat→Prop} {a b:World} (h:Keep L a b) (n:Nat):Keep L a (b.drewN n):=h.ext_ (ext_drewN b n)
theorem Keep.set_ {L:Nat→Prop} {a b:World} (h:Keep L a b) {p:Addr} (hp:L p.block∨a.heap.size≤p.block) (u:Value):Keep L a (b.setCell p u) :=
 ⟨h.os,h.tape,h.output,by simpa [World.setCell] using h.size,fun k hk hl=>by
  rw[Below.heap_setCell _ _ _ _ (fun e=>by subst e;rcases hp with hp|hp;exact hl hp;omega)]
  exact h.block k hk hl⟩
theorem Keep.of_but {w w':World} {b:Nat} (h:But b w w'):Keep (·=b) w w':=⟨h.os,h.tape,h.output,Nat.le_of_eq h.size.symm,fun k _ hl=>h.block k hl⟩
theorem Keep.of_grown {L:Nat→Prop} {w w':World} {row:Option Nat} (h:w.grownBy w' row) (hr:∀ k,row=some k→L k∨w.heap.size≤k):Keep L w w' :=
 ⟨h.os,h.tape,h.output,h.size,fun k hk hl=>h.block k hk (fun e=>by rcases hr k e.symm with g|g;exact hl g;omega)⟩
theorem Keep.below {L:Nat→Prop} {w w':World} {B:Nat} (h:Keep L w w') (hB:B≤w.heap.size) (hl:∀ k,k<B→¬L k):Below B w w' :=
 ⟨h.os,h.tape,h.output,h.size,fun k hk=>h.block k (by omega) (hl k hk)⟩
theorem Ext.keep {L:Nat→Prop} {a b c:World} (h:Ext a b) (k:Keep L b c) (hl:∀ i,L i→a.heap.size≤i):Ext a c :=
 Below.trans h (k.below h.size fun i hi e=>by have:=hl i e;omega)
theorem Keep.cell {L:Nat→Prop} {w w':World} (h:Keep L w w') {p:Addr} {v:Value} (hp:¬L p.block) (hc:w.cell? p=some v):w'.cell? p=some v:=by
 rw[World.cell?_of_block (w:=w) (h.block p.block (cell_lt hc) hp)];exact hc
theorem Keep.frozen {L:Nat→Prop} {w w':World} (h:Keep L w w') {p:Addr} (hp:¬L p.block) (hlt:p.block<w.heap.size):w'.frozen? p=w.frozen? p :=
 World.frozen?_of_block (w:=w) (h.block p.block hlt hp)
theorem MapI.keep {L:Nat→Prop} {w w':World} {b:Nat} {q:IntKind} {es:List (Int × Value)} (h:MapI w b q es) (k:Keep L w w') (hb:¬L b):MapI w' b q es :=
 h.of_block (k.block b h.lt hb)
theorem RSl.keep {L:Nat→Prop} {w w':World} {a:Option Addr} {cs:List Value} (h:RSl w a cs) (k:Keep L w w') (hl:∀ x,a=some x→¬L x.block):RSl w' a cs:=fun j u hu=>by
 obtain⟨b,off,ha,hc⟩:=h j u hu
 exact⟨b,off,ha,k.cell (p:=⟨b,off+j,none⟩) (hl ⟨b,off,none⟩ ha) hc⟩
def SMap (w:World) (b:Nat) (q:IntKind) (st:List Int):Prop :=
 ∃ es,MapI w b q es∧∀ k:Int,mget es k=if st.contains k=true then some (.bool true) else none
theorem SMap.keep {L:Nat→Prop} {w w':World} {b:Nat} {q:IntKind} {st:List Int} (h:SMap w b q st) (k:Keep L w w') (hb:¬L b):SMap w' b q st:=by
 obtain⟨es,hm,hg⟩:=h
 exact⟨es,hm.keep k hb,hg⟩
theorem SMap.ext {w w':World} {b:Nat} {q:IntKind} {st:List Int} (h:SMap w b q st) (k:Ext w w'):SMap w' b q st:=by
 obtain⟨es,hm,hg⟩:=h
 exact⟨es,hm.ext k,hg⟩
theorem SMap.lt {w:World} {b:Nat} {q:IntKind} {st:List Int} (h:SMap w b q st):b<w.heap.size:=by
 obtain⟨es,hm,_⟩:=h
 exact hm.lt
theorem SMap.made (w:World) (q:IntKind):SMap (w.alloc (.map #[] 0)) w.heap.size q []:=⟨[],MapI.made w q,fun k=>by simp[mget]⟩
theorem SMap.put {w':World} {b:Nat} {q:IntKind} {es:List (Int × Value)} {st:List Int} (a:Int) (hg:∀ k:Int,mget es k=if st.contains k=true then some (.bool true) else none)
  (h:MapI w' b q (mput es a (.bool true))):SMap w' b q (st++[a]) :=
 ⟨_,h,fun k=>by
  by_cases e:k=a
  ·subst e;rw[mget_mput_same];simp
  ·rw[mget_mput_other _ _ _ _ e,hg k]
   have:(k==a)=false:=by simpa using e
   simp[List.contains_eq_any_beq,this,e]⟩
theorem run_part {P:Program} {t e:TypeId} (ht:P.underlying t=some (.slice e)) (hz:∀ w,(sizeOf e).run P w=.ok 1 w) (b off len cap l h:Nat) (i j:Int) (hi:i=(l:Int)) (hj:j=(h:Int)) (hl:l≤h) (hh:h≤cap) :
  ∃ A C,(∀ w':World,(Instr.slice t (.slice (some ⟨b,off,none⟩) len cap) (some (.int .i64 i)) (some (.int .i64 j)) none).run P w'=.ok (.slice A (h-l) C) w')∧h-l≤C∧A≠none ∧
   ∀ (w:World) (cs:List Value),RSl w (some ⟨b,off,none⟩) cs→RSl w A ((cs.drop l).take (h-l)):=by
 have he:P.elem t=e:=by simp[Program.elem,ht]
 have ht':P.underlying t=some (.slice (P.elem t)):=by rw[he];exact ht
 refine⟨if cap=l then some ⟨b,off,none⟩ else some ⟨b,off+l,none⟩,cap-l,fun w'=>?_,by omega,?_,fun w cs hR=>?_⟩
 ·subst hi hj
  rw[run_slice_lh w' t (some ⟨b,off,none⟩) len cap ht' .i64 .i64 (l:Int) (h:Int) (by omega) (by omega) (by omega),he,hz]
  simp[Result.andThen,sliced,Addr.add]
  split
  ·rfl
  ·split
   ·rename_i h0;subst h0;simp
   ·rfl
 ·split<;>simp
 ·split
  ·have:h-l=0:=by omega
   rw[this,List.take_zero]
   exact RSl.nil _ _
  ·intro k u hu
   rw[List.getElem?_take] at hu
   split at hu
   ·rw[List.getElem?_drop] at hu
    obtain⟨b',off',ha,hc⟩:=hR _ _ hu
    injection ha with ha
    injection ha with h1 h2
    subst h1 h2
    exact⟨b,off+l,rfl,by rw[show off+l+k=off+(l+k) by omega];exact hc⟩
   ·cases hu
structure Shp (M:Mem):Prop where
 h1:1≤M.half
 h2:M.half≤65536
 o1:1≤M.old
 o2:M.old≤65536
 c1:1≤M.card
 c2:M.card≤1024
 w:(M.W.length:Int)=2*M.half+M.old
 u1:0≤M.used
 u2:M.used≤1
 t1:0≤M.top
 t2:M.top≤M.half
 p1:0≤M.oldTop
 p2:M.oldTop≤M.old
 cl:(M.cards.length:Int)=(M.old+M.card-1)/M.card
theorem shp_of {M:Mem} (h:shapeB M=true):Shp M:=by
 simp only[shapeB,Bool.and_eq_true,inR_true,beq_iff_eq] at h
 obtain⟨⟨⟨⟨⟨⟨⟨⟨a1,a2⟩,b1,b2⟩,c1,c2⟩,d⟩,e1,e2⟩,f1,f2⟩,g1,g2⟩,k⟩:=h
 exact⟨a1,a2,b1,b2,c1,c2,d,e1,e2,f1,f2,g1,g2,k⟩
def Mem.base (M:Mem):Nat:=(M.used*M.half).toNat
theorem Shp.base {M:Mem} (h:Shp M):M.used*M.half=(M.base:Int)∧0≤M.used*M.half∧M.used*M.half≤M.half:=by
 obtain⟨h1,h2,_,_,_,_,_,u1,u2,_,_,_,_,_⟩:=h
 have hu:M.used=0∨M.used=1:=by omega
 unfold Mem.base
 rcases hu with e|e<;>rw[e]<;>omega
theorem Shp.card {M:Mem} (h:Shp M) (a:Int) (h1:2*M.half≤a) (h2:a<2*M.half+M.old) :
  0≤(a-2*M.half)/M.card∧(a-2*M.half)/M.card<(M.cards.length:Int):=by
 have c1:=h.c1
 rw[h.cl]
 refine⟨Int.ediv_nonneg (by omega) (by omega),?_⟩
 have h3:(a-2*M.half)/M.card≤(M.old-1)/M.card:=Int.ediv_le_ediv (by omega) (by omega)
 have h4:(M.old+M.card-1)/M.card=(M.old-1)/M.card+1:=by
  rw[show M.old+M.card-1=(M.old-1)+1*M.card by omega,Int.add_mul_ediv_right _ _ (by omega)]
 omega
end Go.Proofs.YtelhoppfidibiaaGreatDoor
