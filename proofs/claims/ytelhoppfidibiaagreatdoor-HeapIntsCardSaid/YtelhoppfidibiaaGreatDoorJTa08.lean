/- The nursery's collector as data, and how a world holds one; what a step does to it. -/
import Derived.Test.YtelhoppfidibiaaGreatDoorJTa04
import Derived.Test.YtelhoppfidibiaaGreatDoorJTa07
import Derived.Test.YtelhoppfidibiaaGreatDoorJTa05
import Derived.Deep.RegionHeld3
import Derived.Test.YtelhoppfidibiaaGreatDoorJTa01
set_option linter.unusedSimpArgs false
set_option linter.unusedVariables false
set_option maxHeartbeats 4000000
set_option maxRecDepth 100000
namespace Go.Proofs.YtelhoppfidibiaaGreatDoor
open Go.RowKit
structure Col where
 M:Mem
 ten:Int
 base:Int
 top:Int
 mv:List (Int × Int)
 todo:List Int
structure Pl where
 c:Nat
 mb:Nat
 tv:Value
def mvE (l:List (Int × Int)):List (Int × Value):=l.map fun p=>(p.1,.int .i64 p.2)
def tcells (l:List Int):List Value:=l.map fun x=>.int .i64 x
def mlook (l:List (Int × Int)) (k:Int):Option Int:=(l.find? fun p=>k==p.1).map (·.2)
theorem mget_mvE (l:List (Int × Int)) (k:Int):mget (mvE l) k=(mlook l k).map (.int .i64 ·):=by
 unfold mget mlook mvE
 induction l with
 | nil=>rfl
 | cons p l ih =>
  simp only[List.map_cons,List.find?_cons]
  cases (k==p.1) with
  | true=>rfl
  | false=>exact ih
theorem mput_mvE (l:List (Int × Int)) (k v:Int) (h:mlook l k=none):mput (mvE l) k (.int .i64 v)=mvE (l++[(k,v)]):=by
 induction l with
 | nil=>rfl
 | cons p l ih =>
  unfold mlook at h ih
  simp only[List.find?_cons] at h
  cases hk:(k==p.1) with
  | true=>rw[hk] at h;cases h
  | false =>
   rw[hk] at h
   simp only[mvE,List.map_cons,List.cons_append,mput,hk,Bool.false_eq_true,if_false]
   congr 1
   exact ih h
def OwnA (b:Nat) (S:Sls) (k:Nat):Prop:=k=b∨S.W.1=some ⟨k,0,none⟩∨S.R.1=some ⟨k,0,none⟩∨S.K.1=some ⟨k,0,none⟩∨S.I.1=some ⟨k,0,none⟩∨S.C.1=some ⟨k,0,none⟩
theorem ownL_A {b:Nat} {S:Sls} {k:Nat} (h:OwnL b S k):OwnA b S k:=by
 rcases h with h|h|h
 ·exact Or.inl h
 ·exact Or.inr (Or.inl h)
 ·exact Or.inr (Or.inr (Or.inr (Or.inr (Or.inr h))))
theorem fld_ownA {b:Nat} {S:Sls} {tI:TypeId} {M:Mem} {w:World} {B:Nat} (h:OMem w B b tI M S) {f:Fld} (hf:f∈memFlds tI M S) {k:Nat} (hk:f.val.ownBlock=some k):OwnA b S k:=by
 have ho:=(h.fld f hf).2.1
 have ha:f.a=some ⟨k,0,none⟩:=by
  rcases ho.2 with⟨h2,_⟩|⟨g,cap,cur,hv,_⟩
  ·rw[h2] at hk;cases hk
  ·rw[hv] at hk
   simp[Value.ownBlock] at hk
   subst hk
   unfold Fld.val at hv
   injection hv
 simp only[memFlds,List.mem_cons,List.not_mem_nil,or_false] at hf
 rcases hf with rfl|rfl|rfl|rfl|rfl<;>simp_all [OwnA]
theorem OMem.keptA {w w':World} {B b:Nat} {tI:TypeId} {M:Mem} {S:Sls} (h:OMem w B b tI M S) (hk:∀ k,k<w.heap.size→OwnA b S k→w'.heap[k]?=w.heap[k]?):OMem w' B b tI M S :=
 OM.kept h fun k hlt ho=>hk k hlt (by
  rcases ho with rfl|⟨f,hf,hv⟩
  ·exact Or.inl rfl
  ·exact fld_ownA h hf hv)
structure OCol (w:World) (B b:Nat) (C:Col) (S:Sls) (X:Pl):Prop where
 mem:OMem w B b 140 C.M S
 cB:B≤X.c
 mB:B≤X.mb
 cN:¬OwnA b S X.c
 mN:¬OwnA b S X.mb
 cm:X.c≠X.mb
 tN:∀ k,X.tv.ownBlock=some k→¬OwnA b S k∧k≠X.c∧k≠X.mb
 blk:∃ cur t,w.heap[X.c]?=some (.cells cur t (0,0))
 f0:w.cell? ⟨X.c,0,none⟩=some (.pointer (some ⟨b,0,none⟩))
 f1:w.cell? ⟨X.c,1,none⟩=some (.int .i64 C.ten)
 f2:w.cell? ⟨X.c,2,none⟩=some (.int .i64 C.base)
 f3:w.cell? ⟨X.c,3,none⟩=some (.int .i64 C.top)
 f4:w.cell? ⟨X.c,4,none⟩=some (.map (some X.mb))
 f5:w.cell? ⟨X.c,5,none⟩=some X.tv
 map:MapI w X.mb .i64 (mvE C.mv)
 td:Tail w B 3 X.tv (tcells C.todo)
def OwnC (b:Nat) (S:Sls) (X:Pl) (k:Nat):Prop:=OwnA b S k∨k=X.c∨k=X.mb∨X.tv.ownBlock=some k
section
variable {w w':World} {B b:Nat} {C:Col} {S:Sls} {X:Pl}
theorem OCol.clt (h:OCol w B b C S X):X.c<w.heap.size:=by obtain⟨cur,t,hc⟩:=h.blk;exact lt_of_block hc
theorem OCol.frozen (h:OCol w B b C S X) (j:Nat):w.frozen? ⟨X.c,j,none⟩=false:=by
 obtain⟨cur,t,hc⟩:=h.blk
 simp[World.frozen?,hc]
theorem OCol.ext (h:OCol w B b C S X) (k:Ext w w'):OCol w' B b C S X :=
 ⟨OM.ext h.mem k,h.cB,h.mB,h.cN,h.mN,h.cm,h.tN,by rw[Below.block k _ h.clt];exact h.blk,k.cell_ h.f0,k.cell_ h.f1,k.cell_ h.f2,k.cell_ h.f3,k.cell_ h.f4,k.cell_ h.f5,h.map.ext k,h.td.ext k⟩
theorem OCol.onMem (h:OCol w B b C S X) {M':Mem} (hm:OMem w' B b 140 M' S) (k:Keep (OwnA b S) w w'):OCol w' B b {C with M:=M'} S X :=
 ⟨hm,h.cB,h.mB,h.cN,h.mN,h.cm,h.tN,by rw[k.block _ h.clt h.cN];exact h.blk,
  k.cell (p:=⟨X.c,0,none⟩) h.cN h.f0,k.cell (p:=⟨X.c,1,none⟩) h.cN h.f1,k.cell (p:=⟨X.c,2,none⟩) h.cN h.f2,k.cell (p:=⟨X.c,3,none⟩) h.cN h.f3,k.cell (p:=⟨X.c,4,none⟩) h.cN h.f4,k.cell (p:=⟨X.c,5,none⟩) h.cN h.f5,
  h.map.keep k h.mN,h.td.keep k fun g hg=>(h.tN g hg).1⟩
theorem OCol.setTop (h:OCol w B b C S X) (v:Int):OCol (w.setCell ⟨X.c,3,none⟩ (.int .i64 v)) B b {C with top:=v} S X:=by
 have hb:∀ k,k≠X.c→(w.setCell ⟨X.c,3,none⟩ (.int .i64 v)).heap[k]?=w.heap[k]?:=fun k hk=>heap_setCell_other w _ k _ hk
 refine⟨h.mem.keptA fun k _ hk=>hb k (fun e=>h.cN (e ▸ hk)),h.cB,h.mB,h.cN,h.mN,h.cm,h.tN,blk_set h.blk,?_,?_,?_,cell_set_same h.f3,?_,?_,h.map.setCell _ _,h.td.kept fun g hg=>hb g (h.tN g hg).2.1⟩
 ·rw[cell_set_off (by decide)];exact h.f0
 ·rw[cell_set_off (by decide)];exact h.f1
 ·rw[cell_set_off (by decide)];exact h.f2
 ·rw[cell_set_off (by decide)];exact h.f4
 ·rw[cell_set_off (by decide)];exact h.f5
theorem OCol.put (h:OCol w B b C S X) (k v:Int) (hn:mlook C.mv k=none) (hm:MapI w' X.mb .i64 (mput (mvE C.mv) k (.int .i64 v))) (hb:But X.mb w w'):OCol w' B b {C with mv:=C.mv++[(k,v)]} S X:=by
 have hc:∀ j u,w.cell? ⟨X.c,j,none⟩=some u→w'.cell? ⟨X.c,j,none⟩=some u:=fun j u hu=>by
  rw[World.cell?_of_block (w:=w) (a:=⟨X.c,j,none⟩) (hb.block _ h.cm)];exact hu
 refine⟨h.mem.keptA fun i _ hi=>hb.block i (fun e=>h.mN (e ▸ hi)),h.cB,h.mB,h.cN,h.mN,h.cm,h.tN,by rw[hb.block _ h.cm];exact h.blk,hc _ _ h.f0,hc _ _ h.f1,hc _ _ h.f2,hc _ _ h.f3,hc _ _ h.f4,hc _ _ h.f5,?_,h.td.kept fun g hg=>hb.block g (h.tN g hg).2.2⟩
 rw[mput_mvE _ _ _ hn] at hm
 exact hm
theorem OCol.ownC_lt (h:OCol w B b C S X) {k:Nat} (hk:OwnC b S X k):B≤k∨OwnA b S k:=by
 rcases hk with hk|rfl|rfl|hk
 ·exact Or.inr hk
 ·exact Or.inl h.cB
 ·exact Or.inl h.mB
 ·exact Or.inl (h.td.lt hk).1
theorem OCol.ownA_size (h:OCol w B b C S X) {k:Nat} (hk:OwnA b S k):k<w.heap.size:=by
 rcases hk with rfl|hk|hk|hk|hk|hk
 ·exact OM.lt h.mem
 ·exact ((h.mem.fld ⟨3,78,1,S.W.1,C.M.W.length,S.W.2,wcells C.M.W⟩ (by simp[memFlds])).2.1.lt k (by simp[Fld.val,hk,Value.ownBlock])).2
 ·exact ((h.mem.fld ⟨7,78,1,S.R.1,C.M.roots.length,S.R.2,wcells C.M.roots⟩ (by simp[memFlds])).2.1.lt k (by simp[Fld.val,hk,Value.ownBlock])).2
 ·exact ((h.mem.fld ⟨8,78,1,S.K.1,C.M.weak.length,S.K.2,wcells C.M.weak⟩ (by simp[memFlds])).2.1.lt k (by simp[Fld.val,hk,Value.ownBlock])).2
 ·exact ((h.mem.fld ⟨9,140,2,S.I.1,C.M.ids.length,S.I.2,icells C.M.ids⟩ (by simp[memFlds])).2.1.lt k (by simp[Fld.val,hk,Value.ownBlock])).2
 ·exact ((h.mem.fld ⟨10,4,1,S.C.1,C.M.cards.length,S.C.2,bcells C.M.cards⟩ (by simp[memFlds])).2.1.lt k (by simp[Fld.val,hk,Value.ownBlock])).2
theorem OCol.ownC_size (h:OCol w B b C S X) {k:Nat} (hk:OwnC b S X k):k<w.heap.size:=by
 rcases hk with hk|rfl|rfl|hk
 ·exact h.ownA_size hk
 ·exact h.clt
 ·exact h.map.lt
 ·exact (h.td.lt hk).2
theorem OCol.kept (h:OCol w B b C S X) (hk:∀ k,OwnC b S X k→w'.heap[k]?=w.heap[k]?):OCol w' B b C S X:=by
 have hcb:=hk X.c (Or.inr (Or.inl rfl))
 have hc:∀ j u,w.cell? ⟨X.c,j,none⟩=some u→w'.cell? ⟨X.c,j,none⟩=some u:=fun j u hu=>by
  rw[World.cell?_of_block (w:=w) (a:=⟨X.c,j,none⟩) hcb];exact hu
 exact⟨h.mem.keptA fun k _ hA=>hk k (Or.inl hA),h.cB,h.mB,h.cN,h.mN,h.cm,h.tN,by rw[hcb];exact h.blk,hc _ _ h.f0,hc _ _ h.f1,hc _ _ h.f2,hc _ _ h.f3,hc _ _ h.f4,hc _ _ h.f5,
  h.map.of_block (hk _ (Or.inr (Or.inr (Or.inl rfl)))),h.td.kept fun g hg=>hk g (Or.inr (Or.inr (Or.inr hg)))⟩
theorem OCol.work {w1:World} (h:OCol w B b C S X) (hk:Keep (fun k=>X.tv.ownBlock=some k) w w1) (v':Value) (l:List Int) (ht:Tail w1 B 3 v' (tcells l)) (hv:∀ k,v'.ownBlock=some k→X.tv.ownBlock=some k∨w.heap.size≤k) :
  OCol (w1.setCell ⟨X.c,5,none⟩ v') B b {C with todo:=l} S {X with tv:=v'}:=by
 have hcT:¬X.tv.ownBlock=some X.c:=fun e=>(h.tN _ e).2.1 rfl
 have hmT:¬X.tv.ownBlock=some X.mb:=fun e=>(h.tN _ e).2.2 rfl
 have hAlt:∀ k,OwnA b S k→k<w.heap.size:=fun k hk=>h.ownA_size hk
 have hnew:∀ k,v'.ownBlock=some k→¬OwnA b S k∧k≠X.c∧k≠X.mb:=fun k hk=>by
  rcases hv k hk with q|q
  ·exact h.tN k q
  ·exact⟨fun e=>by have:=hAlt k e;omega,fun e=>by have:=h.clt;omega,fun e=>by have:=h.map.lt;omega⟩
 have hb:∀ k,k≠X.c→(w1.setCell ⟨X.c,5,none⟩ v').heap[k]?=w1.heap[k]?:=fun k hk'=>heap_setCell_other w1 _ k _ hk'
 have hc:∀ j u,w.cell? ⟨X.c,j,none⟩=some u→w1.cell? ⟨X.c,j,none⟩=some u:=fun j u hu=>hk.cell (p:=⟨X.c,j,none⟩) hcT hu
 refine⟨?_,h.cB,h.mB,h.cN,h.mN,h.cm,hnew,blk_set (by rw[hk.block _ h.clt hcT];exact h.blk),?_,?_,?_,?_,?_,cell_set_same (hc _ _ h.f5),(h.map.keep hk hmT).setCell _ _,ht.kept fun g hg=>hb g (hnew g hg).2.1⟩
 ·exact h.mem.keptA fun k hlt hk'=>(hb k (fun e=>h.cN (e ▸ hk'))).trans (hk.block k hlt (fun e=>(h.tN k e).1 hk'))
 ·rw[cell_set_off (by decide)];exact hc _ _ h.f0
 ·rw[cell_set_off (by decide)];exact hc _ _ h.f1
 ·rw[cell_set_off (by decide)];exact hc _ _ h.f2
 ·rw[cell_set_off (by decide)];exact hc _ _ h.f3
 ·rw[cell_set_off (by decide)];exact hc _ _ h.f4
end
def CStep (w:World) (B b:Nat) (S:Sls) (X:Pl) (C':Col) (w':World):Prop :=
 ∃ X':Pl,X'.c=X.c∧X'.mb=X.mb∧OCol w' B b C' S X'∧Keep (OwnC b S X) w w'∧∀ k,OwnC b S X' k→OwnC b S X k∨w.heap.size≤k
def moveTo (C:Col) (j:Nat):Int:=if C.ten≤hAge (wat C.M.W j) then 2*C.M.half+C.M.oldTop else C.base+C.top
def moveHead (C:Col) (j:Nat):Int:=headW (hKind (wat C.M.W j)) (if C.ten≤hAge (wat C.M.W j) then 0 else min 15 (hAge (wat C.M.W j)+1)) (hMark (wat C.M.W j)) (hSize (wat C.M.W j))
def moveC (C:Col) (j:Nat):Col :=
 let h:=wat C.M.W j
 let to:=(moveTo C j).toNat
 {C with
  M:={C.M with W:=(splice C.M.W (to+1) ((C.M.W.drop (j+1)).take (hSize h).toNat)).set to (moveHead C j),oldTop:=if C.ten≤hAge h then C.M.oldTop+(1+hSize h) else C.M.oldTop}
  top:=if C.ten≤hAge h then C.top else C.top+(1+hSize h)
  mv:=C.mv++[((j:Int),moveTo C j)]
  todo:=if rawB (hKind h) then C.todo else C.todo++[moveTo C j]}
def stays (M:Mem) (a:Int):Bool:=!youngB M a
def followC (C:Col) (a:Int):Int × Col :=
 if stays C.M a then (a,C) else
 match mlook C.mv (placeW a) with
 | some to=>(addrW to,C)
 | none=>(addrW (moveTo C (placeW a).toNat),moveC C (placeW a).toNat)
def fieldsC (C:Col):Nat→Nat→Col
 | _,0=>C
 | i,n+1=>let r:=followC C (wat C.M.W i);fieldsC {r.2 with M:=storeM r.2.M i r.1} (i+1) n
def lastC (C:Col) (a:Int):Int × Bool :=
 if stays C.M a then (a,true) else
 match mlook C.mv (placeW a) with
 | some to=>(addrW to,true)
 | none=>(addrW 0,false)
def ObjsPost (L:Nat→Prop) (w:World) (I:List Ob→World→Prop) (see:Ob→Bool) (M:Mem) (e:Ending) (w':World):Prop :=
 ∃ v,e=.returned (.bool (objsB M see))∧I v w'∧(objsB M see=true→v=objsAll M)∧Keep L w w'
theorem objects_walk (w0:World) (b o:Nat) (M:Mem) (S:Sls) (hs:Shp M) (hM:RMem w0 b o M S) (gb gs:Addr) (hG:GBound w0 gb) (hS:GShape w0 gs)
  (L:Nat→Prop) (g:Nat) (lb:Array Value) (eg:∀ args w,(callFunc g args).run Tryz.prog w=.ok (.enter g args) w) (see:Ob→Bool) (I:List Ob→World→Prop)
  (w:World) (hE:Ext w0 w) (hL:∀ k,L k→w0.heap.size≤k∧k<w.heap.size) (hX:∀ v w w',I v w→Ext w w'→I v w')
  (hC:∀ v x w',I v w'→Keep L w w'→ObM M x→Calls Tryz.prog g (#[.int .i64 (x.a:Int),headV x.w]++lb) w' fun e w''=>e=.returned (.bool (see x))∧I (v++[x]) w''∧Keep L w' w'')
  (hI:I [] w) :
  Calls Tryz.prog 135 #[.pointer (some ⟨b,o,none⟩),.func (.func g) #[] lb] w (ObjsPost L w I see M):=by
 obtain⟨hb,b0,b1⟩:=hs.base
 have s1:=hs.h1
 have s2:=hs.h2
 have s3:=hs.t1
 have s4:=hs.t2
 have s5:=hs.p1
 have s6:=hs.p2
 have s7:=hs.o2
 have s8:=hs.w
 have hM1:=hM.ext hE
 have c1:=hM1.half
 have c2:=hM1.top
 have c3:=hM1.oldTop
 obtain⟨t,ht⟩:∃ t:Nat,M.top=t:=⟨M.top.toNat,by omega⟩
 obtain⟨p,hp⟩:∃ p:Nat,M.oldTop=p:=⟨M.oldTop.toNat,by omega⟩
 obtain⟨h,hh⟩:∃ h:Nat,M.half=h:=⟨M.half.toNat,by omega⟩
 obtain⟨N1,hN1⟩:∃ N1:Nat,N1=M.base+t:=⟨_,rfl⟩
 obtain⟨N2,hN2⟩:∃ N2:Nat,N2=2*h:=⟨_,rfl⟩
 obtain⟨N3,hN3⟩:∃ N3:Nat,N3=2*h+p:=⟨_,rfl⟩
 have eN:partN M=part M.W M.base N1:=by unfold partN;rw[ht,hN1];rfl
 have eO:partO M=part M.W N2 N3:=by unfold partO;rw[hp,hh,hN2,hN3];rfl
 have x1:Hid (N1=M.base+M.top.toNat):=by unfold Hid;rw[hN1,ht];rfl
 have x2:Hid (N2=(2*M.half).toNat):=by unfold Hid;rw[hN2,hh];rfl
 have x3:Hid (N3=(2*M.half).toNat+M.oldTop.toNat):=by unfold Hid;rw[hN3,hh,hp];rfl
 have E1:Hid (M.half=(h:Int)):=hh
 have E2:Hid (M.top=(t:Int)):=ht
 have E3:Hid (M.oldTop=(p:Int)):=hp
 rw[hh] at c1
 rw[ht] at c2
 rw[hp] at c3
 have w1:IntKind.i64.wrap ((M.base:Int)+(t:Int))=(N1:Int):=by rw[IntWalk.i64_in _ (by omega)];omega
 have w2:IntKind.i64.wrap (2*(h:Int))=(N2:Int):=by rw[IntWalk.i64_in _ (by omega)];omega
 have w3:IntKind.i64.wrap ((N2:Int)+(p:Int))=(N3:Int):=by rw[IntWalk.i64_in _ (by omega)];omega
 have HM:=Lib.hid hM
 have HG:=Lib.hid hG
 have HS:=Lib.hid hS
 have HE:=Lib.hid hE
 have HL:=Lib.hid hL
 have HX:=Lib.hid hX
 have HC:=Lib.hid hC
 have HI:Hid (I [] w):=hI
 have HSH:=Lib.hid hs
 have HN:=Lib.hid eN
 have HO:=Lib.hid eO
 have k1:M.base≤N1∧N1≤M.W.length:=by omega
 have k2:N2≤N3∧N3≤M.W.length:=by omega
 have k3:M.W.length≤196608:=by omega
 obtain⟨k4,k5⟩:=k1
 obtain⟨k6,k7⟩:=k2
 clear hM hG hS hE hL hX hC hI hM1 hs eN eO s8 hb ht hp hh hN1 hN2 hN3 b0 b1 s1 s2 s3 s4 s5 s6 s7
 go_enter Tryz.func135,Tryz.ntmps135
 go_wp2
 cases h1:((part M.W M.base N1).2&&(part M.W M.base N1).1.all see) with
 | false =>
  have H1:=Lib.hid h1
  clear h1
  refine wp_region_held_drew (S:=fun w'=>w'.cell? ⟨b,o,none⟩=some (.int .i64 (h:Int))∧w'.cell? ⟨b,o+5,none⟩=some (.int .i64 (t:Int))∧w'.cell? ⟨b,o+6,none⟩=some (.int .i64 (p:Int))) (by kernel_rfl) ?_ (fun hHeld=>?_)
  ·go_keep
  refine tk 0 ⟨some 5,_,_,_,_,_⟩ ?_ rfl ?_ ?_
  rotate_left
  ·(intro w hSw;(try dsimp only at hSw);go_simp;try with_reducible rfl)
  try simp only[tkS]
  refine tk 1 ⟨some 6,_,_,_,_,_⟩ ?_ rfl ?_ ?_
  rotate_left
  ·(intro w hSw;(try dsimp only at hSw);go_simp;try with_reducible rfl)
  try simp only[tkS]
  refine tk 3 ⟨some 8,_,_,_,_,_⟩ ?_ rfl ?_ ?_
  rotate_left
  ·(intro w hSw;(try dsimp only at hSw);go_simp;try with_reducible rfl)
  try simp only[tkS]
  refine tk 5 ⟨some 10,_,_,_,_,_⟩ ?_ rfl ?_ ?_
  rotate_left
  ·(intro w hSw;(try dsimp only at hSw);go_simp;try with_reducible rfl)
  try simp only[tkS]
  refine tk 6 ⟨some 11,_,_,_,_,_⟩ ?_ rfl ?_ ?_
  rotate_left
  ·(intro w hSw;(try dsimp only at hSw);go_simp;try with_reducible rfl)
  try simp only[tkS]
  refine tk 7 ⟨some 12,_,_,_,_,_⟩ ?_ rfl ?_ ?_
  rotate_left
  ·(intro w hSw;(try dsimp only at hSw);go_simp;try with_reducible rfl)
  try simp only[tkS]
  refine tk 8 ⟨some 13,_,_,_,_,_⟩ ?_ rfl ?_ ?_
  rotate_left
  ·(intro w hSw;(try dsimp only at hSw);go_simp;try with_reducible rfl)
  try simp only[tkS]
  refine tk 10 ⟨some 15,_,_,_,_,_⟩ ?_ rfl ?_ ?_
  rotate_left
  ·(intro w hSw;(try dsimp only at hSw);go_simp;try with_reducible rfl)
  try simp only[tkS]
  refine wpAnyH_ready (rs:=[2]) (by kernel_rfl) (by simp) ?_
  refine AllReadyH.cons (o:=⟨some 7,_,_,_,_,_⟩) rfl (fun K hK=>?_) AllReadyH.nil
  go_simp
  refine (base_any _ b o M S ?_ HSH.out).mono ?_
  ·refine HM.out.ext ?_
   repeat (first|exact HE.out|exact Ext.refl _|(refine Ext.drew_ ?_)|(refine Ext.drewN_ ?_ _))
  rintro e w' ⟨rfl,n,rfl⟩
  refine hK.out _ _ ?_ (fun hHeld=>?_)
  ·(try dsimp only);go_keep
  clear hK K
  try simp only[tkS]
  refine wpAnyH_ready (rs:=[4]) (by kernel_rfl) (by simp) ?_
  refine AllReadyH.cons (o:=⟨some 9,_,_,_,_,_⟩) rfl (fun K hK=>?_) AllReadyH.nil
  go_simp
  refine (base_any _ b o M S ?_ HSH.out).mono ?_
  ·refine HM.out.ext ?_
   repeat (first|exact HE.out|exact Ext.refl _|(refine Ext.drew_ ?_)|(refine Ext.drewN_ ?_ _))
  rintro e w' ⟨rfl,n,rfl⟩
  refine hK.out _ _ ?_ (fun hHeld=>?_)
  ·(try dsimp only);go_keep
  clear hK K
  try simp only[tkS]
  refine tk 9 ⟨some 14,_,_,_,_,_⟩ ?_ rfl ?_ ?_
  rotate_left
  ·(intro w hSw;(try dsimp only at hSw);go_simp;try with_reducible rfl)
  try simp only[tkS]
  refine wpAnyH_ready (rs:=[11]) (by kernel_rfl) (by simp) ?_
  refine AllReadyH.cons (o:=⟨some 16,_,_,_,_,_⟩) rfl (fun K hK=>?_) AllReadyH.nil
  go_simp
  refine (each_walk w0 b o M S HM.out gb gs HG.out HS.out L g lb eg see I _ ?_ ?_ HX.out M.base N1 (by omega) k3 ?_ (by omega) [] ?_).mono ?_
  ·repeat (first|exact HE.out|exact Ext.refl _|(refine Ext.drew_ ?_)|(refine Ext.drewN_ ?_ _))
  ·exact fun k hk=>⟨(HL.out k hk).1,by have h2:=(HL.out k hk).2;simpa using h2⟩
  ·exact fun v x w' hI hK hx=>HC.out v x w' hI (Keep.trans (by repeat (first|exact Keep.refl _ _|(refine Keep.drew_ ?_)|(refine Keep.drewN_ ?_ _))) hK) (Or.inl (x1.out ▸ hx))
  ·refine HX.out _ _ _ HI.out ?_
   repeat (first|exact HE.out|exact Ext.refl _|(refine Ext.drew_ ?_)|(refine Ext.drewN_ ?_ _))
  rintro e w1 ⟨v1,he,hI1,hv1,hK1⟩
  rw[H1.out] at he
  subst he
  have HK1:Hid (Keep L w w1):=Keep.trans (by repeat (first|exact Keep.refl _ _|(refine Keep.drew_ ?_)|(refine Keep.drewN_ ?_ _))) hK1
  have hE1:=Ext.keep HE.out HK1.out (fun i hi=>(HL.out i hi).1)
  have HE1:=Lib.hid hE1
  have hMM:=HM.out.ext hE1
  have d1:=hMM.half
  have d2:=hMM.top
  have d3:=hMM.oldTop
  rw[E1.out] at d1
  rw[E2.out] at d2
  rw[E3.out] at d3
  clear hMM hE1
  have HI1:=Lib.hid hI1
  have HV1:=Lib.hid hv1
  clear hI1 hv1 hK1
  refine hK.out _ _ ?_ (fun hHeld=>?_)
  ·(try dsimp only);exact⟨d1,d2,d3⟩
  clear hK K
  try simp only[tkS]
  refine tk 12 ⟨some 17,_,_,_,_,_⟩ ?_ rfl ?_ ?_
  rotate_left
  ·(intro w hSw;(try dsimp only at hSw);go_simp;try with_reducible rfl)
  try simp only[tkS]
  refine tn 13 ⟨some 18,_,_,_,_,_⟩ rfl ?_
  try simp only[tkS]
  refine tn 14 ⟨some 19,_,_,_,_,_⟩ rfl ?_
  try simp only[tkS]
  refine tn 15 ⟨some 20,_,_,_,_,_⟩ rfl ?_
  try simp only[tkS]
  refine tn 16 ⟨some 21,_,_,_,_,_⟩ rfl ?_
  try simp only[tkS]
  refine tn 17 ⟨some 22,_,_,_,_,_⟩ rfl ?_
  try simp only[tkS]
  refine tn 18 ⟨some 23,_,_,_,_,_⟩ rfl ?_
  try simp only[tkS]
  refine tn 19 ⟨some 24,_,_,_,_,_⟩ rfl ?_
  try simp only[tkS]
  refine tn 20 ⟨some 25,_,_,_,_,_⟩ rfl ?_
  try simp only[tkS]
  refine tn 21 ⟨some 26,_,_,_,_,_⟩ rfl ?_
  try simp only[tkS]
  refine tn 22 ⟨some 27,_,_,_,_,_⟩ rfl ?_
  try simp only[tkS]
  refine tn 23 ⟨some 28,_,_,_,_,_⟩ rfl ?_
  try simp only[tkS]
  refine tn 24 ⟨some 29,_,_,_,_,_⟩ rfl ?_
  try simp only[tkS]
  refine tn 25 ⟨some 30,_,_,_,_,_⟩ rfl ?_
  try simp only[tkS]
  refine tn 26 ⟨some 31,_,_,_,_,_⟩ rfl ?_
  try simp only[tkS]
  refine tn 27 ⟨some 32,_,_,_,_,_⟩ rfl ?_
  try simp only[tkS]
  refine tn 28 ⟨some 33,_,_,_,_,_⟩ rfl ?_
  try simp only[tkS]
  refine tn 29 ⟨some 34,_,_,_,_,_⟩ rfl ?_
  try simp only[tkS]
  refine tn 30 ⟨some 35,_,_,_,_,_⟩ rfl ?_
  try simp only[tkS]
  refine tk 31 ⟨some 36,_,_,_,_,_⟩ ?_ rfl ?_ ?_
  rotate_left
  ·(intro w hSw;(try dsimp only at hSw);go_simp;try with_reducible rfl)
  try simp only[tkS]
  refine tk 32 ⟨some 4,_,_,_,_,_⟩ ?_ rfl ?_ ?_
  rotate_left
  ·(intro w hSw;(try dsimp only at hSw);go_simp;try with_reducible rfl)
  try simp only[tkS]
  refine wpAnyH_done (by kernel_rfl) ?_ _
  go_wp2
  go_ret
  refine⟨v1,?_,HI1.out,fun e=>?_,HK1.out⟩
  ·unfold objsB;rw[HN.out,H1.out];rfl
  ·unfold objsB at e;rw[HN.out,H1.out] at e;cases e
 | true =>
  have H1:=Lib.hid h1
  clear h1
  refine wp_region_held_drew (S:=fun w'=>w'.cell? ⟨b,o,none⟩=some (.int .i64 (h:Int))∧w'.cell? ⟨b,o+5,none⟩=some (.int .i64 (t:Int))∧w'.cell? ⟨b,o+6,none⟩=some (.int .i64 (p:Int))) (by kernel_rfl) ?_ (fun hHeld=>?_)
  ·go_keep
  refine tk 0 ⟨some 5,_,_,_,_,_⟩ ?_ rfl ?_ ?_
  rotate_left
  ·(intro w hSw;(try dsimp only at hSw);go_simp;try with_reducible rfl)
  try simp only[tkS]
  refine tk 1 ⟨some 6,_,_,_,_,_⟩ ?_ rfl ?_ ?_
  rotate_left
  ·(intro w hSw;(try dsimp only at hSw);go_simp;try with_reducible rfl)
  try simp only[tkS]
  refine tk 3 ⟨some 8,_,_,_,_,_⟩ ?_ rfl ?_ ?_
  rotate_left
  ·(intro w hSw;(try dsimp only at hSw);go_simp;try with_reducible rfl)
  try simp only[tkS]
  refine tk 5 ⟨some 10,_,_,_,_,_⟩ ?_ rfl ?_ ?_
  rotate_left
  ·(intro w hSw;(try dsimp only at hSw);go_simp;try with_reducible rfl)
  try simp only[tkS]
  refine tk 6 ⟨some 11,_,_,_,_,_⟩ ?_ rfl ?_ ?_
  rotate_left
  ·(intro w hSw;(try dsimp only at hSw);go_simp;try with_reducible rfl)
  try simp only[tkS]
  refine tk 7 ⟨some 12,_,_,_,_,_⟩ ?_ rfl ?_ ?_
  rotate_left
  ·(intro w hSw;(try dsimp only at hSw);go_simp;try with_reducible rfl)
  try simp only[tkS]
  refine tk 8 ⟨some 13,_,_,_,_,_⟩ ?_ rfl ?_ ?_
  rotate_left
  ·(intro w hSw;(try dsimp only at hSw);go_simp;try with_reducible rfl)
  try simp only[tkS]
  refine tk 10 ⟨some 15,_,_,_,_,_⟩ ?_ rfl ?_ ?_
  rotate_left
  ·(intro w hSw;(try dsimp only at hSw);go_simp;try with_reducible rfl)
  try simp only[tkS]
  refine wpAnyH_ready (rs:=[2]) (by kernel_rfl) (by simp) ?_
  refine AllReadyH.cons (o:=⟨some 7,_,_,_,_,_⟩) rfl (fun K hK=>?_) AllReadyH.nil
  go_simp
  refine (base_any _ b o M S ?_ HSH.out).mono ?_
  ·refine HM.out.ext ?_
   repeat (first|exact HE.out|exact Ext.refl _|(refine Ext.drew_ ?_)|(refine Ext.drewN_ ?_ _))
  rintro e w' ⟨rfl,n,rfl⟩
  refine hK.out _ _ ?_ (fun hHeld=>?_)
  ·(try dsimp only);go_keep
  clear hK K
  try simp only[tkS]
  refine wpAnyH_ready (rs:=[4]) (by kernel_rfl) (by simp) ?_
  refine AllReadyH.cons (o:=⟨some 9,_,_,_,_,_⟩) rfl (fun K hK=>?_) AllReadyH.nil
  go_simp
  refine (base_any _ b o M S ?_ HSH.out).mono ?_
  ·refine HM.out.ext ?_
   repeat (first|exact HE.out|exact Ext.refl _|(refine Ext.drew_ ?_)|(refine Ext.drewN_ ?_ _))
  rintro e w' ⟨rfl,n,rfl⟩
  refine hK.out _ _ ?_ (fun hHeld=>?_)
  ·(try dsimp only);go_keep
  clear hK K
  try simp only[tkS]
  refine tk 9 ⟨some 14,_,_,_,_,_⟩ ?_ rfl ?_ ?_
  rotate_left
  ·(intro w hSw;(try dsimp only at hSw);go_simp;try with_reducible rfl)
  try simp only[tkS]
  refine wpAnyH_ready (rs:=[11]) (by kernel_rfl) (by simp) ?_
  refine AllReadyH.cons (o:=⟨some 16,_,_,_,_,_⟩) rfl (fun K hK=>?_) AllReadyH.nil
  go_simp
  refine (each_walk w0 b o M S HM.out gb gs HG.out HS.out L g lb eg see I _ ?_ ?_ HX.out M.base N1 (by omega) k3 ?_ (by omega) [] ?_).mono ?_
  ·repeat (first|exact HE.out|exact Ext.refl _|(refine Ext.drew_ ?_)|(refine Ext.drewN_ ?_ _))
  ·exact fun k hk=>⟨(HL.out k hk).1,by have h2:=(HL.out k hk).2;simpa using h2⟩
  ·exact fun v x w' hI hK hx=>HC.out v x w' hI (Keep.trans (by repeat (first|exact Keep.refl _ _|(refine Keep.drew_ ?_)|(refine Keep.drewN_ ?_ _))) hK) (Or.inl (x1.out ▸ hx))
  ·refine HX.out _ _ _ HI.out ?_
   repeat (first|exact HE.out|exact Ext.refl _|(refine Ext.drew_ ?_)|(refine Ext.drewN_ ?_ _))
  rintro e w1 ⟨v1,he,hI1,hv1,hK1⟩
  rw[H1.out] at he
  subst he
  have HK1:Hid (Keep L w w1):=Keep.trans (by repeat (first|exact Keep.refl _ _|(refine Keep.drew_ ?_)|(refine Keep.drewN_ ?_ _))) hK1
  have hE1:=Ext.keep HE.out HK1.out (fun i hi=>(HL.out i hi).1)
  have HE1:=Lib.hid hE1
  have hMM:=HM.out.ext hE1
  have d1:=hMM.half
  have d2:=hMM.top
  have d3:=hMM.oldTop
  rw[E1.out] at d1
  rw[E2.out] at d2
  rw[E3.out] at d3
  clear hMM hE1
  have HI1:=Lib.hid hI1
  have HV1:=Lib.hid hv1
  clear hI1 hv1 hK1
  refine hK.out _ _ ?_ (fun hHeld=>?_)
  ·(try dsimp only);exact⟨d1,d2,d3⟩
  clear hK K
  try simp only[tkS]
  refine tk 12 ⟨some 17,_,_,_,_,_⟩ ?_ rfl ?_ ?_
  rotate_left
  ·(intro w hSw;(try dsimp only at hSw);go_simp;try with_reducible rfl)
  try simp only[tkS]
  refine tk 13 ⟨some 18,_,_,_,_,_⟩ ?_ rfl ?_ ?_
  rotate_left
  ·(intro w hSw;(try dsimp only at hSw);go_simp;try with_reducible rfl)
  try simp only[tkS]
  refine tk 14 ⟨some 19,_,_,_,_,_⟩ ?_ rfl ?_ ?_
  rotate_left
  ·(intro w hSw;(try dsimp only at hSw);go_simp;try with_reducible rfl)
  try simp only[tkS]
  refine tk 15 ⟨some 20,_,_,_,_,_⟩ ?_ rfl ?_ ?_
  rotate_left
  ·(intro w hSw;(try dsimp only at hSw);go_simp;try with_reducible rfl)
  try simp only[tkS]
  refine tk 16 ⟨some 21,_,_,_,_,_⟩ ?_ rfl ?_ ?_
  rotate_left
  ·(intro w hSw;(try dsimp only at hSw);go_simp;try with_reducible rfl)
  try simp only[tkS]
  refine tk 17 ⟨some 22,_,_,_,_,_⟩ ?_ rfl ?_ ?_
  rotate_left
  ·(intro w hSw;(try dsimp only at hSw);go_simp;try with_reducible rfl)
  try simp only[tkS]
  refine tk 18 ⟨some 23,_,_,_,_,_⟩ ?_ rfl ?_ ?_
  rotate_left
  ·(intro w hSw;(try dsimp only at hSw);go_simp;try with_reducible rfl)
  try simp only[tkS]
  refine tk 19 ⟨some 24,_,_,_,_,_⟩ ?_ rfl ?_ ?_
  rotate_left
  ·(intro w hSw;(try dsimp only at hSw);go_simp;try with_reducible rfl)
  try simp only[tkS]
  refine tk 20 ⟨some 25,_,_,_,_,_⟩ ?_ rfl ?_ ?_
  rotate_left
  ·(intro w hSw;(try dsimp only at hSw);go_simp;try with_reducible rfl)
  try simp only[tkS]
  refine tk 21 ⟨some 26,_,_,_,_,_⟩ ?_ rfl ?_ ?_
  rotate_left
  ·(intro w hSw;(try dsimp only at hSw);go_simp;try with_reducible rfl)
  try simp only[tkS]
  refine tk 22 ⟨some 27,_,_,_,_,_⟩ ?_ rfl ?_ ?_
  rotate_left
  ·(intro w hSw;(try dsimp only at hSw);go_simp;try with_reducible rfl)
  try simp only[tkS]
  refine tk 23 ⟨some 28,_,_,_,_,_⟩ ?_ rfl ?_ ?_
  rotate_left
  ·(intro w hSw;(try dsimp only at hSw);go_simp;try with_reducible rfl)
  try simp only[tkS]
  refine tk 24 ⟨some 29,_,_,_,_,_⟩ ?_ rfl ?_ ?_
  rotate_left
  ·(intro w hSw;(try dsimp only at hSw);go_simp;try with_reducible rfl)
  try simp only[tkS]
  refine tk 25 ⟨some 30,_,_,_,_,_⟩ ?_ rfl ?_ ?_
  rotate_left
  ·(intro w hSw;(try dsimp only at hSw);go_simp;try with_reducible rfl)
  try simp only[tkS]
  refine tk 26 ⟨some 31,_,_,_,_,_⟩ ?_ rfl ?_ ?_
  rotate_left
  ·(intro w hSw;(try dsimp only at hSw);go_simp;try with_reducible rfl)
  try simp only[tkS]
  refine tk 27 ⟨some 32,_,_,_,_,_⟩ ?_ rfl ?_ ?_
  rotate_left
  ·(intro w hSw;(try dsimp only at hSw);go_simp;try with_reducible rfl)
  try simp only[tkS]
  refine tk 28 ⟨some 33,_,_,_,_,_⟩ ?_ rfl ?_ ?_
  rotate_left
  ·(intro w hSw;(try dsimp only at hSw);go_simp;try with_reducible rfl)
  try simp only[tkS]
  refine tk 29 ⟨some 34,_,_,_,_,_⟩ ?_ rfl ?_ ?_
  rotate_left
  ·(intro w hSw;(try dsimp only at hSw);go_simp;try with_reducible rfl)
  try simp only[tkS]
  refine wpAnyH_ready (rs:=[30]) (by kernel_rfl) (by simp) ?_
  refine AllReadyH.cons (o:=⟨some 35,_,_,_,_,_⟩) rfl (fun K hK=>?_) AllReadyH.nil
  go_simp
  refine (each_walk w0 b o M S HM.out gb gs HG.out HS.out L g lb eg see I _ ?_ ?_ HX.out N2 N3 (by omega) k3 ?_ (by omega) v1 ?_).mono ?_
  ·repeat (first|exact HE1.out|exact Ext.refl _|(refine Ext.drew_ ?_)|(refine Ext.drewN_ ?_ _))
  ·exact fun k hk=>⟨(HL.out k hk).1,by have h2:=(HL.out k hk).2;have h3:=HK1.out.size;simp;omega⟩
  ·exact fun v x w' hI hK hx=>HC.out v x w' hI (Keep.trans HK1.out (Keep.trans (by repeat (first|exact Keep.refl _ _|(refine Keep.drew_ ?_)|(refine Keep.drewN_ ?_ _))) hK)) (Or.inr (x3.out ▸ x2.out ▸ hx))
  ·refine HX.out _ _ _ HI1.out ?_
   repeat (first|exact HE1.out|exact Ext.refl _|(refine Ext.drew_ ?_)|(refine Ext.drewN_ ?_ _))
  rintro e w2 ⟨v2,he,hI2,hv2,hK2⟩
  subst he
  have HK2:Hid (Keep L w w2):=Keep.trans HK1.out (Keep.trans (by repeat (first|exact Keep.refl _ _|(refine Keep.drew_ ?_)|(refine Keep.drewN_ ?_ _))) hK2)
  have hMM:=HM.out.ext (Ext.keep HE.out HK2.out (fun i hi=>(HL.out i hi).1))
  have d4:=hMM.half
  have d5:=hMM.top
  have d6:=hMM.oldTop
  rw[E1.out] at d4
  rw[E2.out] at d5
  rw[E3.out] at d6
  clear hMM
  have HI2:=Lib.hid hI2
  have HV2:=Lib.hid hv2
  clear hI2 hv2 hK2
  refine hK.out _ _ ?_ (fun hHeld=>?_)
  ·(try dsimp only);exact⟨d4,d5,d6⟩
  clear hK K
  try simp only[tkS]
  refine tk 31 ⟨some 36,_,_,_,_,_⟩ ?_ rfl ?_ ?_
  rotate_left
  ·(intro w hSw;(try dsimp only at hSw);go_simp;try with_reducible rfl)
  try simp only[tkS]
  refine tk 32 ⟨some 4,_,_,_,_,_⟩ ?_ rfl ?_ ?_
  rotate_left
  ·(intro w hSw;(try dsimp only at hSw);go_simp;try with_reducible rfl)
  try simp only[tkS]
  refine wpAnyH_done (by kernel_rfl) ?_ _
  go_wp2
  go_ret
  refine⟨v1++v2,?_,HI2.out,fun e=>?_,HK2.out⟩
  ·unfold objsB;rw[HN.out,HO.out,H1.out];simp
  ·unfold objsB at e
   rw[HN.out,HO.out,H1.out,Bool.true_and] at e
   unfold objsAll
   rw[HN.out,HO.out,HV1.out H1.out,HV2.out e]
theorem c4_enters (args:Array Value) (w:World):(callFunc 142 args).run Tryz.prog w=.ok (.enter 142 args) w :=
 enters_of Tryz.func142 (by kernel_rfl) rfl args w
theorem undU64:Tryz.prog.underlying 76=some (.slice 78):=by kernel_rfl
theorem sizeU64 (w:World):(sizeOf 78).run Tryz.prog w=.ok 1 w:=by kernel_rfl
theorem flds_cells (M:Mem) (x:Ob) (h:x.a+1+x.n≤M.W.length):((wcells M.W).drop (x.a+1)).take (x.a+1+x.n-(x.a+1))=wcells (flds M x):=by
 rw[show x.a+1+x.n-(x.a+1)=x.n by omega]
 apply List.ext_getElem?
 intro i
 by_cases hi:i<x.n
 ·simp[wcells,flds,hi,wat,List.getD_eq_getElem?_getD,show x.a+1+i<M.W.length by omega]
 ·simp[wcells,flds,hi];omega
theorem flds_at (M:Mem) (x:Ob) (k:Nat) (h:k<x.n):(flds M x).getD k 0=wat M.W (x.a+1+k):=by simp[flds,List.getD_eq_getElem?_getD,h]
theorem flds_in {M:Mem} (h:M.Ok) (x:Ob) (z:Int) (hz:z∈flds M x):0≤z∧z≤18446744073709551615:=by
 obtain⟨i,_,rfl⟩:=List.mem_map.1 hz
 exact wat_in h _
theorem flds_len (M:Mem) (x:Ob):(flds M x).length=x.n:=by simp[flds]
def C4One (b6:Nat) (w:World) (M:Mem) (st:List Int) (x:Ob) (c:Bool) (e:Ending) (w':World):Prop :=
 e=.returned (.bool (okFld M st x))∧w'.cell? ⟨b6,0,none⟩=some (.bool (c&&cardsO M x))∧w'.frozen? ⟨b6,0,none⟩=false∧Keep (·=b6) w w'
theorem c4_any (x:Ob) (b o b1 b3 b4 b5 b6 bm:Nat) (M:Mem) (S:Sls) (hs:Shp M) (st:List Int) (w0 w:World) (hE:Ext w0 w) (hM:RMem w0 b o M S) (hx:ObM M x) (c:Bool) (hm:SMap w bm .i64 st)
  (hb6:w0.heap.size≤b6) (n1:b1≠b6) (n3:b3≠b6) (n4:b4≠b6) (n5:b5≠b6) (nm:bm≠b6)
  (h1:w.cell? ⟨b1,0,none⟩=some (.pointer (some ⟨b,o,none⟩))) (h3:w.cell? ⟨b3,0,none⟩=some (.map (some bm)))
  (h4:w.cell? ⟨b4,0,none⟩=some (.func (.func 137) #[] #[.pointer (some ⟨b3,0,none⟩)]))
  (h5:w.cell? ⟨b5,0,none⟩=some (.func (.func 139) #[] #[.pointer (some ⟨b4,0,none⟩)]))
  (h6:w.cell? ⟨b6,0,none⟩=some (.bool c)) (f6:w.frozen? ⟨b6,0,none⟩=false) :
  Calls Tryz.prog 142 #[.int .i64 (x.a:Int),headV x.w,.pointer (some ⟨b1,0,none⟩),.pointer (some ⟨b6,0,none⟩),.pointer (some ⟨b5,0,none⟩)] w (C4One b6 w M st x c):=by
 have hx1:ObIn M.W 0 M.W.length x:=by
  have h1:=hs.h1;have h2:=hs.t2;have h3:=hs.p2;have h4:=hs.w;have h5:=hs.base;have h6:=hs.o2;have h7:=hs.t1;have h8:=hs.p1
  rcases hx with hx|hx
  ·exact⟨hx.w,hx.hd,Nat.zero_le _,by have:=hx.to;omega⟩
  ·exact⟨hx.w,hx.hd,Nat.zero_le _,by have:=hx.to;omega⟩
 have hold:oldB M (x.a:Int)=true→(x.a:Int)+1+x.n≤2*M.half+M.old:=fun ho=>by
  have h1:=hs.h1;have h2:=hs.t2;have h3:=hs.p2;have h4:=hs.w;have h5:=hs.base;have h6:=hs.o2;have h7:=hs.t1;have h8:=hs.p1
  have h9:=hx1.to
  omega
 have hn:(x.n:Int)=hSize x.w:=by
  have:=hx1.w ▸ (wat_in hM.ok x.a).1
  unfold Ob.n hSize;omega
 have hto:=hx1.to
 have HX:=Lib.hid hx1
 clear hx hx1
 have hlen:M.W.length≤196608:=by have h1:=hs.h2;have h2:=hs.o2;have h3:=hs.w;omega
 have hMw:RMem w b o M S:=hM.ext hE
 have c_W:=hMw.W
 have hcap:=hMw.capW
 have hlt6:=cell_lt h6
 have hlt1:=cell_lt h1
 have hlt5:=cell_lt h5
 have hltb:=hMw.lt
 simp only at hlt6 hlt1 hlt5
 obtain⟨wb,wo,hWa,-⟩:=hMw.rW 0 _ (wcells_at M.W 0 (by omega))
 rw[hWa] at c_W
 have HWA:=Lib.hid hWa
 have HM:=Lib.hid hM
 have HE:=Lib.hid hE
 have HMW:=Lib.hid hMw
 have HSM:=Lib.hid hm
 have HSH:=Lib.hid hs
 have HOLD:=Lib.hid hold
 have H3:=Lib.hid h3
 have H4:=Lib.hid h4
 have H6:=Lib.hid h6
 have F6:=Lib.hid f6
 clear hM hE hMw hm hs hold hWa h3 h4
 have HN:=Lib.hid hn
 have hn0:0≤hSize x.w:=by omega
 have hn1:(x.a:Int)+1+hSize x.w≤(M.W.length:Int):=by omega
 clear hn
 unfold headV
 cases hr:rawB (hKind x.w) with
 | true =>
  go_enter Tryz.func142,Tryz.ntmps142
  go_wp2_with (go_at_call 89;refine (raw_any _ _).mono ?_;rintro e w' ⟨rfl,rfl⟩)
  go_ret
  refine⟨by unfold okFld;rw[hr];rfl,?_,?_,?_⟩
  ·rw[((Ext.refl w).alloc_ _).cell_ H6.out];unfold cardsO;rw[hr];simp
  ·rw[((Ext.refl w).alloc_ _).three.2.1 _ _ hlt6];exact F6.out
  ·exact (Keep.refl _ w).alloc_ _
 | false =>
  obtain⟨A,C,hsl,hAC,hAn,hRA⟩:=run_part (P:=Tryz.prog) undU64 sizeU64 wb wo M.W.length S.W.2 (x.a+1) (x.a+1+x.n) ((x.a:Int)+1) ((x.a:Int)+1+hSize x.w) (by omega) (by have:=HN.out;omega) (by omega) (by omega)
  have HRA:Hid (∀ wr,RMem wr b o M S→RSl wr A (wcells (flds M x))):=fun wr hr=>by
   have:=hRA wr _ (HWA.out ▸ hr.rW)
   rw[flds_cells M x hto] at this
   exact this
  rw[show x.a+1+x.n-(x.a+1)=x.n by omega] at hsl hAC
  clear hRA
  have e1:IntKind.i64.wrap ((x.a:Int)+1)=(x.a:Int)+1:=IntWalk.i64_in _ (by omega)
  have e2:IntKind.i64.wrap ((x.a:Int)+1+hSize x.w)=(x.a:Int)+1+hSize x.w:=IntWalk.i64_in _ (by omega)
  have hc1:(x.a:Int)+1+hSize x.w≤(S.W.2:Int):=by omega
  have hc2:(0:Int)≤(x.a:Int)+1:=by omega
  have hc3:(x.a:Int)+1≤(x.a:Int)+1+hSize x.w:=by omega
  go_enter Tryz.func142,Tryz.ntmps142
  go_wp2_with (go_at_call 89;refine (raw_any _ _).mono ?_;rintro e w' ⟨rfl,rfl⟩)
  go_quiet (fail)
  go_wp2
  go_loopw [28] (fun i wr=>∃ k:Nat,k≤x.n∧i=.int .i64 (k:Int)∧wr.cell? ⟨b6,0,none⟩=some (.bool (c&&cardsK M x k))∧wr.frozen? ⟨b6,0,none⟩=false∧Hid (Keep (·=b6) w wr))
   (fun i _=>x.n-(intOf i).toNat)
  case atStart =>
   refine⟨0,Nat.zero_le _,rfl,?_,?_,((Keep.refl _ w).alloc_ _).drewN_ _⟩
   ·have:=((Ext.refl w).alloc_ (Obj.cells #[Value.int IntKind.i64 (hKind x.w),Value.int IntKind.i64 (hAge x.w),Value.int IntKind.i64 (hMark x.w),Value.int IntKind.i64 (hSize x.w)] 92)).cell_ H6.out
    simpa [cardsK] using this
   ·have:=((Ext.refl w).alloc_ (Obj.cells #[Value.int IntKind.i64 (hKind x.w),Value.int IntKind.i64 (hAge x.w),Value.int IntKind.i64 (hMark x.w),Value.int IntKind.i64 (hSize x.w)] 92)).three.2.1 _ 0 hlt6
    rw[F6.out] at this
    simpa using this
  case round =>
   obtain⟨k,hk,rfl,h6r,f6r,hK⟩:=hrel
   have hMR:RMem wr b o M S:=HM.out.ext (Ext.keep HE.out hK.out fun i hi=>by subst hi;exact hb6)
   have HMR:=Lib.hid hMR
   have h1r:=hK.out.cell n1 h1
   have h5r:=hK.out.cell n5 h5
   have hRF:=HRA.out wr hMR
   clear h1 h5 hMR
   by_cases hlt:k<x.n
   ·obtain⟨ab,ao,hA,hcell⟩:=hRF k _ (wcells_at (flds M x) k (by rw[flds_len];exact hlt))
    rw[flds_at M x k hlt] at hcell
    clear hRF
    subst hA
    have hin:=wat_in HM.out.ok (x.a+1+k)
    cases ho:oldB M (x.a:Int) with
    | false =>
     have HCRD:Hid (crd M x k=true):=by simp[Hid,crd,ho]
     have hg1:True:=trivial
     have hg2:True:=trivial
     go_wp2_with (first
      | (go_at_call 101;refine (inOld_any _ _ b o M S HMR.out HSH.out).mono ?_;rintro e w' ⟨rfl,rfl⟩))
     go_roundw
     case rel =>
      refine⟨k+1,by omega,by go_num,?_,f6r,hK⟩
      rw[cardsK_succ,HCRD.out,Bool.and_true];exact h6r
     case measure=>simp[intOf];omega
    | true =>
     have hg1:2*M.half≤(x.a:Int)+1+k:=by have:=of_decide_eq_true ho;omega
     have hg2:(x.a:Int)+1+k<2*M.half+M.old:=by have:=HOLD.out ho;omega
     cases hy:youngB M (wat M.W (x.a+1+k)) with
     | false =>
      have HCRD:Hid (crd M x k=true):=by simp[Hid,crd,hy]
      go_wp2_with (first
       | (go_at_call 101;refine (inOld_any _ _ b o M S HMR.out HSH.out).mono ?_;rintro e w' ⟨rfl,rfl⟩)
       | (go_at_call 110;refine (young_any _ hin.1 hin.2 _ b o M S HMR.out HSH.out).mono ?_;rintro e w' ⟨rfl,rfl⟩))
      go_roundw
      case rel =>
       refine⟨k+1,by omega,by go_num,?_,f6r,hK⟩
       rw[cardsK_succ,HCRD.out,Bool.and_true];exact h6r
      case measure=>simp[intOf];omega
     | true =>
      cases hq:cardB M ((x.a:Int)+1+k) with
      | true =>
       have HCRD:Hid (crd M x k=true):=by simp[Hid,crd,hq]
       go_wp2_with (first
        | (go_at_call 101;refine (inOld_any _ _ b o M S HMR.out HSH.out).mono ?_;rintro e w' ⟨rfl,rfl⟩)
        | (go_at_call 110;refine (young_any _ hin.1 hin.2 _ b o M S HMR.out HSH.out).mono ?_;rintro e w' ⟨rfl,rfl⟩)
        | (go_at_call 143;refine (marked_any _ _ b o M S HMR.out HSH.out hg1 hg2).mono ?_;rintro e w' ⟨rfl,n,rfl⟩))
       go_roundw
       case rel =>
        refine⟨k+1,by omega,by go_num,?_,by simpa using f6r,hK.out.drewN_ _⟩
        rw[cardsK_succ,HCRD.out,Bool.and_true];simpa using h6r
       case measure=>simp[intOf];omega
      | false =>
       have HCRD:Hid (crd M x k=false):=by simp[Hid,crd,ho,hy,hq]
       go_wp2_with (first
        | (go_at_call 101;refine (inOld_any _ _ b o M S HMR.out HSH.out).mono ?_;rintro e w' ⟨rfl,rfl⟩)
        | (go_at_call 110;refine (young_any _ hin.1 hin.2 _ b o M S HMR.out HSH.out).mono ?_;rintro e w' ⟨rfl,rfl⟩)
        | (go_at_call 143;refine (marked_any _ _ b o M S HMR.out HSH.out hg1 hg2).mono ?_;rintro e w' ⟨rfl,n,rfl⟩))
       go_roundw
       case rel =>
        refine⟨k+1,by omega,by go_num,?_,?_,?_⟩
        ·rw[cardsK_succ,HCRD.out,Bool.and_false,Bool.and_false];simp[h6r,go_sem]
        ·simp[f6r,go_sem]
        ·exact (hK.out.drewN_ _).set_ (Or.inl rfl) _
       case measure=>simp[intOf];omega
   ·have hkn:k=x.n:=by omega
    subst hkn
    have hc3:=c3_any A C (flds M x) (by rw[flds_len];omega) (fun z hz=>flds_in HM.out.ok x z hz) bm b3 b4 st wr hRF (HSM.out.keep hK.out nm) (hK.out.cell n3 H3.out) (hK.out.cell n4 H4.out)
    rw[flds_len] at hc3
    clear hRF
    go_wp2_with (go_at_call 139;refine hc3.mono ?_;rintro e w' ⟨rfl,hq⟩)
    go_ret
    refine⟨by unfold okFld;rw[hr];rfl,?_,?_,hK.out.ext_ hq⟩
    ·rw[hq.cell_ h6r];unfold cardsO;rw[hr];rfl
    ·rw[hq.three.2.1 _ _ (cell_lt h6r)];exact f6r
theorem ats_snoc (v:List Ob) (x:Ob):(v++[x]).map (fun o=>(o.a:Int))=v.map (fun o=>(o.a:Int))++[(x.a:Int)]:=by simp
def C1Post (bm:Nat) (w:World) (M:Mem) (e:Ending) (w':World):Prop :=
 e=.returned (.bool (objsB M (okHd M)))∧(objsB M (okHd M)=true→SMap w' bm .i64 (startsM M))∧Keep (·=bm) w w'
theorem objects_c1 (w0:World) (b o:Nat) (M:Mem) (S:Sls) (hs:Shp M) (hM:RMem w0 b o M S) (gb gs:Addr) (hG:GBound w0 gb) (hS:GShape w0 gs) (bm b3 b1:Nat) (w:World) (hE:Ext w0 w)
  (hbm:w0.heap.size≤bm) (hne3:b3≠bm) (hne1:b1≠bm) (hm:SMap w bm .i64 []) (h3:w.cell? ⟨b3,0,none⟩=some (.map (some bm))) (h1:w.cell? ⟨b1,0,none⟩=some (.pointer (some ⟨b,o,none⟩))) :
  Calls Tryz.prog 135 #[.pointer (some ⟨b,o,none⟩),.func (.func 136) #[] #[.pointer (some ⟨b3,0,none⟩),.pointer (some ⟨b1,0,none⟩)]] w (C1Post bm w M):=by
 refine (objects_walk w0 b o M S hs hM gb gs hG hS (·=bm) _ #[.pointer (some ⟨b3,0,none⟩),.pointer (some ⟨b1,0,none⟩)] c1_enters (okHd M) (fun v w'=>SMap w' bm .i64 (v.map fun (y:Ob)=>(y.a:Int))) w hE
  (fun k hk=>by subst hk;exact⟨hbm,hm.lt⟩) (fun v w1 w2 hI hx=>hI.ext hx) (fun v x w' hI hK hx=>?_) hm).mono ?_
 ·have:=c1_any x b o bm b3 b1 M S hs (v.map fun (y:Ob)=>(y.a:Int)) w0 w' (hE.keep hK fun i hi=>by subst hi;exact hbm) hM hI hbm hne3 hne1 (hK.cell hne3 h3) (hK.cell hne1 h1)
  rw[←ats_snoc] at this
  exact this
 ·rintro e w' ⟨v,he,hI,hv,hK⟩
  exact⟨he,fun h=>by rw[hv h] at hI;exact hI,hK⟩
def C4Post (b6:Nat) (w:World) (M:Mem) (st:List Int) (e:Ending) (w':World):Prop :=
 e=.returned (.bool (objsB M (okFld M st)))∧(objsB M (okFld M st)=true→w'.cell? ⟨b6,0,none⟩=some (.bool (cardsM M)))∧Keep (·=b6) w w'
theorem objects_c4 (w0:World) (b o:Nat) (M:Mem) (S:Sls) (hs:Shp M) (hM:RMem w0 b o M S) (gb gs:Addr) (hG:GBound w0 gb) (hS:GShape w0 gs) (b1 b3 b4 b5 b6 bm:Nat) (st:List Int) (w:World) (hE:Ext w0 w)
  (hb6:w0.heap.size≤b6) (n1:b1≠b6) (n3:b3≠b6) (n4:b4≠b6) (n5:b5≠b6) (nm:bm≠b6) (hm:SMap w bm .i64 st)
  (h1:w.cell? ⟨b1,0,none⟩=some (.pointer (some ⟨b,o,none⟩))) (h3:w.cell? ⟨b3,0,none⟩=some (.map (some bm)))
  (h4:w.cell? ⟨b4,0,none⟩=some (.func (.func 137) #[] #[.pointer (some ⟨b3,0,none⟩)]))
  (h5:w.cell? ⟨b5,0,none⟩=some (.func (.func 139) #[] #[.pointer (some ⟨b4,0,none⟩)]))
  (h6:w.cell? ⟨b6,0,none⟩=some (.bool true)) (f6:w.frozen? ⟨b6,0,none⟩=false) :
  Calls Tryz.prog 135 #[.pointer (some ⟨b,o,none⟩),.func (.func 142) #[] #[.pointer (some ⟨b1,0,none⟩),.pointer (some ⟨b6,0,none⟩),.pointer (some ⟨b5,0,none⟩)]] w (C4Post b6 w M st):=by
 refine (objects_walk w0 b o M S hs hM gb gs hG hS (·=b6) _ #[.pointer (some ⟨b1,0,none⟩),.pointer (some ⟨b6,0,none⟩),.pointer (some ⟨b5,0,none⟩)] c4_enters (okFld M st)
  (fun v w'=>w'.cell? ⟨b6,0,none⟩=some (.bool (v.all (cardsO M)))∧w'.frozen? ⟨b6,0,none⟩=false) w hE
  (fun k hk=>by subst hk;exact⟨hb6,cell_lt h6⟩) (fun v w1 w2 hI hx=>⟨hx.cell_ hI.1,by rw[hx.three.2.1 _ _ (cell_lt hI.1)];exact hI.2⟩) (fun v x w' hI hK hx=>?_) ⟨h6,f6⟩).mono ?_
 ·have:=c4_any x b o b1 b3 b4 b5 b6 bm M S hs st w0 w' (hE.keep hK fun i hi=>by subst hi;exact hb6) hM hx (v.all (cardsO M)) (hm.keep hK nm) hb6 n1 n3 n4 n5 nm (hK.cell n1 h1) (hK.cell n3 h3) (hK.cell n4 h4) (hK.cell n5 h5) hI.1 hI.2
  refine this.mono ?_
  rintro e w2 ⟨he,h7,h8,h9⟩
  exact⟨he,⟨by rw[h7];simp[List.all_append],h8⟩,h9⟩
 ·rintro e w' ⟨v,he,hI,hv,hK⟩
  exact⟨he,fun h=>by rw[hI.1,hv h];rfl,hK⟩
def lst (n k:Nat):Array Bool:=((List.range n).map fun i=>decide (i<k)).toArray
theorem lst_zero (n:Nat):Array.replicate n false=lst n 0:=by
 apply Array.ext'
 simp only[lst,Array.toList_replicate]
 apply List.ext_getElem?
 intro i
 by_cases h:i<n<;>simp[h]
theorem lst_succ (n k:Nat):(lst n k).setIfInBounds k true=lst n (k+1):=by
 apply Array.ext'
 simp only[lst,Array.toList_setIfInBounds]
 apply List.ext_getElem?
 intro i
 rw[List.getElem?_set]
 by_cases h:i<n
 ·by_cases e:k=i
  ·subst e;simp[h]
  ·simp[h,e];omega
 ·simp[h];omega
def lexOne (md:Region.Mode) (ops:Array Oper) (n k:Nat):Bool:=(Region.ready md ops (lst n k)).contains k&&Region.free md ops (lst n k) k
theorem lexFrom_of (md:Region.Mode) (ops:Array Oper) (n:Nat) (h:∀ k,k<n→lexOne md ops n k=true) (he:(Region.ready md ops (lst n n)).isEmpty=true) :
  ∀ f k,f+k=n→Region.lexFrom md ops f k (lst n k)=true
 | 0,k,hk=>by
  have:k=n:=by omega
  subst this
  exact he
 | f+1,k,hk=>by
  have h1:=h k (by omega)
  unfold lexOne at h1
  unfold Region.lexFrom
  rw[h1,lst_succ,lexFrom_of md ops n h he f (k+1) (by omega)]
  rfl
theorem lexB_of (md:Region.Mode) (ops:Array Oper) (n:Nat) (hn:ops.size=n) (hs:Region.noSelect ops=true) (h:∀ k,k<n→lexOne md ops n k=true) (he:(Region.ready md ops (lst n n)).isEmpty=true):Region.lexB md ops=true:=by
 unfold Region.lexB
 rw[hs,hn,lst_zero,lexFrom_of md ops n h he n 0 (by omega)]
 rfl
def regs:Code→List (List Oper)
 | .region _ ops _=>[ops.toList]
 | .seq a b=>regs a++regs b
 | .cond _ a b=>regs a++regs b
 | .block _ c=>regs c
 | .loop c=>regs c
 | .scope c=>regs c
 | _=>[]
def regOf (f:Func) (k:Nat):List Oper:=((f.body.map regs).getD []).getD k []
end Go.Proofs.YtelhoppfidibiaaGreatDoor
