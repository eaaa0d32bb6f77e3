/- The walks of near and sameWords. -/
import Derived.Test.YtelhoppfidibiaaGreatDoorJTa07
import Derived.Test.YtelhoppfidibiaaGreatDoorJTa17
import Derived.Deep.RegionHeld3
import Derived.Lib.LazyBuf
set_option linter.unusedSimpArgs false
set_option linter.unusedVariables false
set_option maxRecDepth 100000
namespace Go.Proofs.YtelhoppfidibiaaGreatDoor
open Go.RowKit
structure Near (M:Mem):Prop where
 W:M.W.length≤1000
 R:M.roots.length≤100
 K:M.weak.length≤100
 I:M.ids.length≤100
 C:M.cards.length≤1000
theorem infoM:(Tryz.prog.info? 140).map (fun i=>(i.zero,i.size,i.bytes))=some (some (.agg #[.int .u64 0,.int .i64 0]),2,16):=by kernel_rfl
theorem undM:Tryz.prog.underlying 80=some (.slice 140):=by kernel_rfl
def ClonePost (w:World) (e:TypeId) (size:Nat) (m:Nat) (news:List Value) (en:Ending) (w':World):Prop :=
 ∃ a c,en=.returned (.slice a m c)∧w'.ownsRow w.heap.size e size (.slice a m c) m news∧Ext w w'
theorem owns_zero (W:World) (e:TypeId) (size:Nat):(W.alloc (.cells #[] e)).ownsRow W.heap.size e size (.slice (some ⟨W.heap.size,0,none⟩) 0 0) 0 [] :=
 ⟨by simp,Or.inr ⟨W.heap.size,0,#[],rfl,Nat.le_refl _,heap_alloc_new W _,Nat.le_refl _,by unfold maxLen;omega,by simp,by simp⟩⟩
theorem cloneU_walk (ad:Option Addr) (m c:Nat) (news:List Value) (w:World) (hnil:ad=none→c=0) (hmc:m≤c) (hl:news.length=m*1) (hR:RSl w ad news) (h1:∀ u∈news,u.oneCell'=true) (hm:m≤1000000) :
  Calls Tryz.prog 105 #[.slice ad m c] w (ClonePost w 78 1 m news):=by
 obtain⟨i0,hi,hz0,hz1,hz2⟩:=info_parts infoF0
 cases ad with
 | none =>
  obtain rfl:=hnil rfl
  obtain rfl:m=0:=by omega
  obtain rfl:news=[]:=List.eq_nil_of_length_eq_zero (by omega)
  have q:∀ W,(binOp .eql 76 (.slice none 0 0) (.slice none 0 0)).run Tryz.prog W=.ok (.bool true) W:=fun W=>_root_.Go.run_eql_slice_nil W _ _ none 0 0 und0
  go_enter Tryz.func105,Tryz.ntmps105
  go_wp2
  go_ret
  exact⟨none,0,rfl,World.ownsRow_nil _ _ _ _,Ext.refl w⟩
 | some p =>
  have HR:=Lib.hid hR
  have H1:=Lib.hid h1
  clear hR h1 hnil
  have q:∀ W,(binOp .eql 76 (.slice (some p) m c) (.slice none 0 0)).run Tryz.prog W=.ok (.bool false) W:=fun W=>_root_.Go.run_eql_slice_nil W _ _ (some p) m c und0
  go_enter Tryz.func105,Tryz.ntmps105
  go_wp2_with (at_builtin;refine wpList_append_src rfl _ _ 76 rfl w.heap.size 78 i0 (.int .u64 0) 1 8 und0 hi hz0 hz1 hz2 rfl (by decide) _ 0 [] rfl (owns_zero w _ _) (some p) m c news rfl (fun h=>by cases h) hmc hl (HR.out.ext ((Ext.refl w).alloc_ _)) H1.out (by unfold maxLen;omega) (by omega) (by simp) ?_)
  intro a2 c2 w2 hown hgrow hat
  have hx:Ext w w2:=Below.grown ((Ext.refl w).alloc_ _) hgrow (by simp) (fun g hg=>Nat.le_of_eq (Option.some.inj (show some w.heap.size=some g from hg)))
  have HX:=Lib.hid hx
  have HO:=Lib.hid hown
  clear hown hgrow hat hx
  go_wp2
  go_ret
  exact⟨a2,c2,rfl,HO.out,HX.out⟩
theorem own_le {w w':World} {B B':Nat} {e:TypeId} {size:Nat} {v:Value} {n:Nat} {xs:List Value} (h:w.ownsRow B e size v n xs) (hB:B'≤B) (hx:Ext w w'):w'.ownsRow B' e size v n xs:=by
 have hlt:=h.lt
 obtain⟨h1,h2⟩:=h
 refine⟨h1,?_⟩
 rcases h2 with h2|⟨g,cap,cur,hv,hg,hh,r⟩
 ·exact Or.inl h2
 ·refine Or.inr ⟨g,cap,cur,hv,by omega,?_,r⟩
  rw[hx.block g (hlt g (by rw[hv];rfl)).2];exact hh
theorem sizeIntT (w:World):(sizeOf 3).run Tryz.prog w=.ok 1 w:=by kernel_rfl
section
variable {w w1 wr:World} {B b:Nat} {M:Mem} {S:Sls} {X X4:Pl} {C C4:Col} {ten:Int}
theorem work_at (h:At w B b S X X4 C4 wr) (v':Value) (t:List Int) (ht:Tail wr B 3 v' (tcells t)) (hv:v'.ownBlock=X4.tv.ownBlock) :
  At w B b S X {X4 with tv:=v'} {C4 with todo:=t} (wr.setCell ⟨X4.c,5,none⟩ v'):=by
 have hk:Keep (OwnC b S X4) wr (wr.setCell ⟨X4.c,5,none⟩ v'):=Keep.set_ (Keep.refl _ wr) (p:=⟨X4.c,5,none⟩) (Or.inl (Or.inr (Or.inl rfl))) _
 refine⟨h.c,h.mb,h.col.work (Keep.refl _ wr) v' t ht (fun k hk=>Or.inl (by rw[←hv];exact hk)),h.keep.then_ hk fun i hi hk=>?_,fun i hk=>?_⟩
 ·rcases h.own i hk with q|q
  ·exact q
  ·omega
 ·refine h.own i ?_
  rcases hk with hk|hk|hk|hk
  ·exact Or.inl hk
  ·exact Or.inr (Or.inl hk)
  ·exact Or.inr (Or.inr (Or.inl hk))
  ·exact Or.inr (Or.inr (Or.inr (by rw[←hv];exact hk)))
theorem at_eq {C':Col} (h:At w B b S X X4 C4 wr) (e:C4=C'):At w B b S X X4 C' wr:=e ▸ h
theorem fields_at (c:Nat) (hcx:X.c=c) (n N:Nat) (a z:Int) (ha:a=(n:Int)) (hz:z=(N:Int)) (w:World) (hO:OCol w B b C S X) (h1:n≤1000000) (h2:N≤1000000) (hc:CanFields C (n+1) N) :
  Calls Tryz.prog 94 #[.pointer (some ⟨c,0,none⟩),.int .i64 a,.int .i64 z] w (fun e w'=>e=.returned (.tuple #[])∧CStep w B b S X (fieldsC C (n+1) N) w'):=by
 subst hcx ha hz
 exact fields_walk B b C S X n N w hO h1 h2 hc
theorem last_at (c:Nat) (hcx:X.c=c) (a:Int) (h0:0≤a) (h1:a≤18446744073709551615) (w:World) (hO:OCol w B b C S X) (hok:C.M.Ok) (hs:Shp C.M) :
  Calls Tryz.prog 95 #[.pointer (some ⟨c,0,none⟩),.int .u64 a] w (fun e w'=>e=.returned (.tuple #[.int .u64 (lastC C a).1,.bool (lastC C a).2])∧Ext w w'):=by
 subst hcx;exact last_any B b C S X a h0 h1 w hO hok hs
end
def wkC (C:Col) (k:Nat):Col:={C with M:={C.M with weak:=(weakC C).take k++C.M.weak.drop k}}
theorem weakC_len (C:Col):(weakC C).length=C.M.weak.length:=by simp[weakC]
theorem wkC_len (C:Col) (k:Nat):(wkC C k).M.weak.length=C.M.weak.length:=by
 simp only[wkC,List.length_append,List.length_take,List.length_drop,weakC_len];omega
theorem wkC_zero (C:Col):wkC C 0=C:=by simp[wkC]
theorem wkC_all (C:Col):wkC C C.M.weak.length={C with M:={C.M with weak:=weakC C}}:=by
 have:(weakC C).take C.M.weak.length=weakC C:=List.take_of_length_le (by rw[weakC_len];omega)
 simp[wkC,this]
theorem wkC_at (C:Col) (k:Nat) (hk:k<C.M.weak.length):(wkC C k).M.weak.getD k 0=C.M.weak.getD k 0:=by
 simp only[wkC,List.getD_eq_getElem?_getD]
 have hl:((weakC C).take k).length=k:=by rw[List.length_take,weakC_len];omega
 rw[List.getElem?_append_right (by omega),hl,Nat.sub_self,List.getElem?_drop,Nat.add_zero]
theorem weakC_at (C:Col) (k:Nat) (hk:k<C.M.weak.length):(weakC C)[k]?=some (if (lastC C (C.M.weak.getD k 0)).2 then (lastC C (C.M.weak.getD k 0)).1 else 2):=by
 unfold weakC
 rw[List.getElem?_map,List.getElem?_eq_getElem hk,List.getD_eq_getElem?_getD,List.getElem?_eq_getElem hk];rfl
theorem wkC_set (C:Col) (k:Nat) (hk:k<C.M.weak.length) (v:Int) (hv:v=(if (lastC C (C.M.weak.getD k 0)).2 then (lastC C (C.M.weak.getD k 0)).1 else 2)) :
  ({wkC C k with M:={(wkC C k).M with weak:=(wkC C k).M.weak.set k v}}:Col)=wkC C (k+1):=by
 have h:((weakC C).take k++C.M.weak.drop k).set k v=(weakC C).take (k+1)++C.M.weak.drop (k+1):=by
  have hl:((weakC C).take k).length=k:=by rw[List.length_take,weakC_len];omega
  rw[List.set_append_right _ _ (by omega),hl,Nat.sub_self,List.drop_eq_getElem_cons hk,List.set_cons_zero,List.take_add_one,weakC_at C k hk,←hv]
  simp
 simp only[wkC]
 rw[h]
theorem lastC_u64 (C:Col) (u:Int) (h0:0≤u) (h1:u≤18446744073709551615):0≤(lastC C u).1∧(lastC C u).1≤18446744073709551615:=by
 unfold lastC
 split
 ·exact⟨h0,h1⟩
 ·split<;>exact addrW_u64 _
theorem wkC_ok (C:Col) (h:C.M.Ok) (k:Nat):(wkC C k).M.Ok :=
 ⟨h.half,h.old,h.card,h.used,h.top,h.oldTop,h.W,h.roots,fun x hx=>by
  rcases List.mem_append.1 hx with q|q
  ·obtain⟨u,hu,rfl⟩:=List.mem_map.1 (List.mem_of_mem_take q)
   have:=h.weak u hu
   split
   ·exact lastC_u64 C u this.1 this.2
   ·omega
  ·exact h.weak x (List.mem_of_mem_drop q),h.ids,h.lenW,h.lenR,by rw[wkC_len];exact h.lenK,h.lenI,h.lenC⟩
theorem wkC_shp (C:Col) (h:Shp C.M) (k:Nat):Shp (wkC C k).M:=⟨h.h1,h.h2,h.o1,h.o2,h.c1,h.c2,h.w,h.u1,h.u2,h.t1,h.t2,h.p1,h.p2,h.cl⟩
theorem last_wk {w:World} {B b:Nat} {S:Sls} {X:Pl} (C:Col) (k:Nat) (c:Nat) (hcx:X.c=c) (a:Int) (h0:0≤a) (h1:a≤18446744073709551615) (hO:OCol w B b (wkC C k) S X) (hok:C.M.Ok) (hs:Shp C.M) :
  Calls Tryz.prog 95 #[.pointer (some ⟨c,0,none⟩),.int .u64 a] w (fun e w'=>e=.returned (.tuple #[.int .u64 (lastC C a).1,.bool (lastC C a).2])∧Ext w w') :=
 (last_at (C:=wkC C k) c hcx a h0 h1 w hO (wkC_ok C hok k) (wkC_shp C hs k) :)
theorem ids_few {M:Mem} (hg:goodB M=true):M.ids.length≤196608:=by
 obtain⟨hs,hob,hr,hw,hfo,hid⟩:=good_parts hg
 obtain⟨h1,h2⟩:=(idsB_iff _ _ _).1 hid
 have hl:=len_sub (M.ids.map fun x=>placeW x.1) (startsM M) (by
  unfold List.Nodup
  rw[List.pairwise_map]
  refine List.Pairwise.imp_of_mem (fun {p q} hp hq hpq e=>?_) h2
  obtain⟨⟨p1,p2,p3,p4⟩,-⟩:=h1 p hp
  obtain⟨⟨q1,q2,q3,q4⟩,-⟩:=h1 q hq
  apply hpq.1
  unfold placeW at e
  unfold kindW at p1 q1
  omega) (fun k hk=>by
  obtain⟨x,hx,rfl⟩:=List.mem_map.1 hk
  exact (inSt_iff _ _).1 (h1 x hx).1.2.2.1)
 have h3:(startsM M).length=(objsAll M).length:=by simp[startsM]
 have h4:=len_small hs
 obtain⟨hb,b0,b1⟩:=hs.base
 have s1:=hs.h1;have s2:=hs.t2;have s3:=hs.p2;have s4:=hs.w;have s5:=hs.t1;have s6:=hs.p1
 have l1:=part_len M.W (M.base+M.top.toNat-M.base) M.base (M.base+M.top.toNat)
 have l2:=part_len M.W ((2*M.half).toNat+M.oldTop.toNat-(2*M.half).toNat) (2*M.half).toNat ((2*M.half).toNat+M.oldTop.toNat)
 have e1:(partN M).1.length≤M.base+M.top.toNat-M.base:=l1
 have e2:(partO M).1.length≤(2*M.half).toNat+M.oldTop.toNat-(2*M.half).toNat:=l2
 have e3:(objsAll M).length=(partN M).1.length+(partO M).1.length:=by unfold objsAll;rw[List.length_append]
 rw[List.length_map] at hl
 omega
def idsM (C:Col) (l:List (Int × Int)):List (Int × Int):=l.filterMap fun x=>if (lastC C x.1).2 then some ((lastC C x.1).1,x.2) else none
theorem idsM_snoc (C:Col) (l:List (Int × Int)) (k:Nat) (hk:k<l.length):idsM C (l.take (k+1))=if (lastC C l[k].1).2 then idsM C (l.take k)++[((lastC C l[k].1).1,l[k].2)] else idsM C (l.take k):=by
 unfold idsM
 rw[List.take_add_one,List.getElem?_eq_getElem hk,List.filterMap_append]
 cases h:(lastC C l[k].1).2<;>simp[h]
theorem idsM_len (C:Col) (l:List (Int × Int)):(idsM C l).length≤l.length:=List.length_filterMap_le _ _
theorem icells_snoc2 (v:List (Int × Int)) (x:Int × Int):icells (v++[x])=icells v++[Value.int .u64 x.1,Value.int .i64 x.2]:=by simp[icells]
section
variable {w:World} {B b:Nat} {M:Mem} {S:Sls}
theorem coll_end (h:OMem w B b 140 M S) (a:Option Addr) (c:Nat) (l:List (Int × Int)) (ho:w.ownsRow B 140 2 (.slice a l.length c) l.length (icells l)) (hn:∀ k,(Value.slice a l.length c).ownBlock=some k→¬OwnA b S k) (u t:Int) :
  OMem (((w.setCell ⟨b,9,none⟩ (.slice a l.length c)).setCell ⟨b,4,none⟩ (.int .i64 u)).setCell ⟨b,5,none⟩ (.int .i64 t)) B b 140 {M with ids:=l,used:=u,top:=t} {S with I:=(a,c)} :=
 OMem.setTop (OMem.setUsed (h.putI a c l ho hn) u) t
theorem coll_keep (u1 u2 u3:Value):Keep (OwnA b S) w (((w.setCell ⟨b,9,none⟩ u1).setCell ⟨b,4,none⟩ u2).setCell ⟨b,5,none⟩ u3) :=
 Keep.set_ (Keep.set_ (Keep.set_ (Keep.refl _ w) (p:=⟨b,9,none⟩) (Or.inl (Or.inl rfl)) _) (p:=⟨b,4,none⟩) (Or.inl (Or.inl rfl)) _) (p:=⟨b,5,none⟩) (Or.inl (Or.inl rfl)) _
end
end Go.Proofs.YtelhoppfidibiaaGreatDoor
