/- The walks of heap's Head, field, Get, Put. -/
import Derived.Test.YtelhoppfidibiaaGreatDoorJTa32
import Derived.Test.YtelhoppfidibiaaGreatDoorJTa14
import Derived.Test.YtelhoppfidibiaaGreatDoorJTa07
import Derived.Deep.RegionHeld3
import Derived.Test.YtelhoppfidibiaaGreatDoorJTa17
import Derived.Test.YtelhoppfidibiaaGreatDoorJTa18
import Derived.Test.YtelhoppfidibiaaGreatDoorJTa04
import Derived.Test.YtelhoppfidibiaaGreatDoorJTa01
import Derived.Shelf.Strings.BuilderK
import Derived.Shelf.LaysM
import Derived.Shelf.Strconv.Itoa4
import Derived.Shelf.Bits.Mul64
import Derived.Shelf.Strings.Repeat
set_option linter.unusedSimpArgs false
set_option linter.unusedVariables false
set_option maxHeartbeats 4000000
set_option maxRecDepth 100000
namespace Go.Proofs.YtelhoppfidibiaaGreatDoor
open Go.RowKit
def ptrB (u:Int):Bool:=(kindW u==0)&&(u != 0)
section
variable {B hb b:Nat} {M:Mem} {S:Sls} {E:Nat→Addr} {ten nx:Int}
theorem head_no (h:Value) (u:Int) (h0:0≤u) (h1:u≤18446744073709551615) (w:World) (hp:ptrB u=false) :
  Calls Tryz.prog 47 #[h,.int .u64 u] w fun e w'=>e=.returned (.tuple #[.int .i64 0,.agg #[.int .i64 0,.int .i64 0,.int .i64 0,.int .i64 0],.bool false])∧Ext w w':=by
 have hd:(kindW u != 0)=true∨((kindW u != 0)=false∧(u==0)=true):=by
  unfold ptrB at hp
  by_cases hk:kindW u=0
  ·by_cases hz:u=0
   ·exact Or.inr ⟨by simp[hk],by simp[hz]⟩
   ·rw[show (kindW u==0)=true by simpa using hk,show (u != 0)=true by simpa using hz] at hp;cases hp
  ·exact Or.inl (by simpa using hk)
 clear hp
 rcases hd with k0|⟨k0,k2⟩
 all_goals
  go_enter Tryz.func47,Tryz.ntmps47
  go_wp2_with (go_at_call 103;refine (kind_any _ h0 h1 _).mono ?_;rintro e w' ⟨rfl,rfl⟩)
  exact bodyPost_ret (v:=.tuple #[.int .i64 0,.agg #[.int .i64 0,.int .i64 0,.int .i64 0,.int .i64 0],.bool false]) (by simp[results,Tryz.results47,go_sem]) rfl ⟨rfl,by repeat (first|exact Ext.refl _|(refine Ext.set_ ?_ (by simp) _)|(refine Ext.drew_ ?_)|(refine Ext.drewN_ ?_ _)|(refine Ext.alloc_ ?_ _))⟩
theorem ptr_ob (hg:goodB M=true) {u:Int} (hf:fldB (startsM M) u=true) (hp:ptrB u=true):kindW u=0∧u≠0∧∃ x,x∈objsAll M∧placeW u=(x.a:Int):=by
 unfold ptrB at hp
 rw[Bool.and_eq_true] at hp
 have hk:kindW u=0:=by simpa using hp.1
 have hz:u≠0:=by simpa using hp.2
 unfold fldB at hf
 rw[if_pos hk,Bool.or_eq_true] at hf
 rcases hf with q|q
 ·exact absurd (by simpa using q) hz
 ·obtain⟨x,hx,e⟩:=List.mem_map.1 ((inSt_iff _ _).1 q)
  exact⟨hk,hz,x,hx,e.symm⟩
theorem head_yes (u:Int) (h0:0≤u) (h1:u≤18446744073709551615) (w:World) (hM:RMem w b 0 M S) (hp:w.cell? ⟨hb,0,none⟩=some (.pointer (some ⟨b,0,none⟩))) (hg:goodB M=true) (hk:kindW u=0) (hz:u≠0) (x:Ob) (hx:x∈objsAll M) (hpl:placeW u=(x.a:Int)) :
  Calls Tryz.prog 47 #[.pointer (some ⟨hb,0,none⟩),.int .u64 u] w fun e w'=>e=.returned (.tuple #[.int .i64 (x.a:Int),headV x.w,.bool true])∧Ext w w':=by
 obtain⟨hs,hob,-⟩:=good_parts hg
 obtain⟨m1,m2,m3⟩:=mem_in hs hx
 have hlt:x.a<M.W.length:=by omega
 have hin2:=wat_in hM.ok x.a
 rw[←m2] at hin2
 obtain⟨wb,wo,hWa,hcell⟩:=hM.rW x.a _ (wcells_at M.W x.a hlt)
 have n3:=hM.W
 simp only[Nat.zero_add] at n3
 rw[hWa] at n3
 have hcell':w.cell? ⟨wb,wo+x.a,none⟩=some (.int .u64 x.w):=by rw[hcell,m2];rfl
 have k0:(kindW u != 0)=false:=by simpa using hk
 have k2:(u==0)=false:=by simpa using hz
 have hltz:(x.a:Int)<(M.W.length:Int):=by omega
 have hlen:=hM.ok.lenW
 have hwl:=cell_lt hcell'
 have hbl:=cell_lt n3
 have hhl:=cell_lt hp
 simp only at hwl hbl hhl
 have HPL:=Lib.hid hpl
 have HM3:=Lib.hid m3
 clear hM hs hob hg hx hWa hcell m1 m2 m3 hk hz hpl
 go_enter Tryz.func47,Tryz.ntmps47
 go_wp2_with (first
  | (go_at_call 103;refine (kind_any _ h0 h1 _).mono ?_;rintro e w' ⟨rfl,rfl⟩)
  | (go_at_call 104;refine (place_any _ h0 h1 _).mono ?_;rintro e w' ⟨he,rfl⟩;rw[HPL.out] at he;subst he)
  | (go_at_call 56;refine (toHead_yes x.w hin2.1 hin2.2 HM3.out _).mono ?_;rintro e w3 ⟨rfl,hq⟩;have HX3:Hid (Ext w w3):=Ext.trans_ ((Ext.refl w).alloc_ _) hq;obtain⟨t0,t1,t2,t3,u0,u1,u2,u3⟩:=head_block hq;have hz3:w.heap.size<w3.heap.size:=cell_lt t0;clear hq))
 refine named_world' (fun W4 hW4=>?_)
 obtain⟨v0,v1,v2,v3,f0,f1,f2,f3,hE4⟩:=head_set hz3 t0 t1 t2 t3 u0 u1 u2 u3 (hKind x.w) (hAge x.w) (hMark x.w) (hSize x.w)
 rw[←hW4] at v0 v1 v2 v3 f0 f1 f2 f3 hE4
 have hz4:w.heap.size<W4.heap.size:=cell_lt v0
 have hX4:Ext w W4:=Below.trans HX3.out hE4
 have HX4:=Lib.hid hX4
 clear hW4 hE4 hX4 t0 t1 t2 t3 u0 u1 u2 u3
 go_region
 go_wp2
 refine named_body (fun W5 hW5=>?_)
 obtain⟨z0,z1,z2,z3,-,-,-,-,hE5⟩:=head_set hz4 v0 v1 v2 v3 f0 f1 f2 f3 (hKind x.w) (hAge x.w) (hMark x.w) (hSize x.w)
 have hX5:Ext w W5:=by rw[hW5];exact Ext.drew_ (Below.trans HX4.out hE5)
 have HX5:=Lib.hid hX5
 have z0':W5.cell? ⟨w.heap.size,0,none⟩=some (.int .i64 (hKind x.w)):=by rw[hW5];exact z0
 have z1':W5.cell? ⟨w.heap.size,1,none⟩=some (.int .i64 (hAge x.w)):=by rw[hW5];exact z1
 have z2':W5.cell? ⟨w.heap.size,2,none⟩=some (.int .i64 (hMark x.w)):=by rw[hW5];exact z2
 have z3':W5.cell? ⟨w.heap.size,3,none⟩=some (.int .i64 (hSize x.w)):=by rw[hW5];exact z3
 clear hW5 hE5 hX5 z0 z1 z2 z3
 exact bodyPost_ret (v:=.tuple #[.int .i64 (x.a:Int),.agg #[.int .i64 (hKind x.w),.int .i64 (hAge x.w),.int .i64 (hMark x.w),.int .i64 (hSize x.w)],.bool true]) (by simp[results,Tryz.results47,go_sem,z0',z1',z2',z3']) rfl ⟨rfl,HX5.out⟩
def fieldC (M:Mem) (r f s:Int):Int :=
 if rootB M r&&rootB M s then (if ptrB (M.roots.getD r.toNat 0)&&!rawB (hKind (wat M.W (placeW (M.roots.getD r.toNat 0)).toNat)) then (if 0≤f∧f<hSize (wat M.W (placeW (M.roots.getD r.toNat 0)).toNat) then 0 else 2) else 3) else 5
def fieldP (M:Mem) (r f:Int):Nat:=(placeW (M.roots.getD r.toNat 0)).toNat+1+f.toNat
theorem fieldC_ok (hg:goodB M=true) {r f s:Int} (h:fieldC M r f s=0):∃ (rn sn fn:Nat) (x:Ob),r=(rn:Int)∧s=(sn:Int)∧f=(fn:Int)∧rn<M.roots.length∧sn<M.roots.length∧x∈objsAll M∧placeW (M.roots.getD rn 0)=(x.a:Int)∧rawB (hKind x.w)=false∧fn<x.n∧fieldP M r f=x.a+1+fn:=by
 unfold fieldC at h
 split at h
 ·rename_i h1
  rw[Bool.and_eq_true] at h1
  obtain⟨r0,r1⟩:=rootB_true.1 h1.1
  obtain⟨s0,s1⟩:=rootB_true.1 h1.2
  obtain⟨rn,rfl⟩:∃ rn:Nat,r=(rn:Int):=⟨r.toNat,by omega⟩
  obtain⟨sn,rfl⟩:∃ sn:Nat,s=(sn:Int):=⟨s.toNat,by omega⟩
  split at h
  ·rename_i h2
   rw[Bool.and_eq_true,Bool.not_eq_true'] at h2
   obtain⟨hs,hob,hro,-⟩:=good_parts hg
   have hp2:=h2.1
   rw[Int.toNat_natCast] at hp2
   obtain⟨hk,hz,x,hx,hpl⟩:=ptr_ob hg (fieldsB_at hro (by omega:rn<M.roots.length)) hp2
   obtain⟨m1,m2,m3⟩:=mem_in hs hx
   have hr2:=h2.2
   rw[Int.toNat_natCast,hpl,Int.toNat_natCast,←m2] at hr2
   split at h
   ·rename_i h3
    rw[Int.toNat_natCast,hpl,Int.toNat_natCast,←m2] at h3
    obtain⟨fn,rfl⟩:∃ fn:Nat,f=(fn:Int):=⟨f.toNat,by omega⟩
    refine⟨rn,sn,fn,x,rfl,rfl,rfl,by omega,by omega,hx,hpl,hr2,?_,?_⟩
    ·have e:x.n=(hSize x.w).toNat:=rfl
     omega
    ·unfold fieldP
     rw[Int.toNat_natCast,Int.toNat_natCast,hpl,Int.toNat_natCast]
   ·cases h
  ·cases h
 ·cases h
theorem field_walk (w:World) (hH:OHeap w B hb b M S ten nx) (hI:HInv M nx) (hE:G4 E w) (r f s:Int) (hr0:-9223372036854775808≤r∧r≤9223372036854775807) (hs0:-9223372036854775808≤s∧s≤9223372036854775807) :
  Calls Tryz.prog 50 #[.pointer (some ⟨hb,0,none⟩),.int .i64 r,.int .i64 f,.int .i64 s] w (fun e w'=>e=.returned (.tuple #[.int .i64 (if fieldC M r f s=0 then (fieldP M r f:Int) else 0),errC E (fieldC M r f s)])∧Ext w w'):=by
 have HH:=Lib.hid hH
 have HI:=Lib.hid hI
 have HE:=Lib.hid hE
 have hgM:=(chk_zero hI.chk).1
 obtain⟨hs,hob,hro,-⟩:=good_parts hgM
 have hlM:=len_small hs
 cases hR:rootB M r&&rootB M s with
 | false =>
  have e1:fieldC M r f s=5:=by unfold fieldC;rw[hR];rfl
  rw[e1,if_neg (by decide)]
  have HR:=Lib.hid hR
  clear hH hI hE hR e1 hgM hs hob hro hlM
  go_enter Tryz.func50,Tryz.ntmps50
  go_upto_region 2 with (go_at_call 40;refine (root2_any _ (HH.out.ext ((Ext.refl w).alloc_ _)) HI.out.ok w.heap.size r s hr0 hs0 (by rw[World.cell?,heap_alloc_new];rfl) (by rw[World.cell?,heap_alloc_new];rfl)).mono ?_;rintro e w1 ⟨he,hq⟩;rw[HR.out] at he;subst he;have HX1:Hid (Ext w w1):=((Ext.refl w).alloc_ _).trans_ hq;clear hq)
  have k3:=(HE.out.ext HX1.out).place
  go_region
  go_wp2
  go_ret2
  exact⟨rfl,HX1.out.drew_⟩
 | true =>
  rw[Bool.and_eq_true] at hR
  obtain⟨r0,r1⟩:=rootB_true.1 hR.1
  obtain⟨rn,rfl⟩:∃ rn:Nat,r=(rn:Int):=⟨r.toNat,by omega⟩
  have hrl:rn<M.roots.length:=by omega
  have hR':(rootB M (rn:Int)&&rootB M s)=true:=by rw[hR.1,hR.2];rfl
  have HR:=Lib.hid hR'
  have hfd:=fieldsB_at hro hrl
  have hub:0≤M.roots.getD rn 0∧M.roots.getD rn 0≤18446744073709551615:=getD_in (P:=fun x=>0≤x∧x≤18446744073709551615) hI.ok.roots hrl
  have hrow:=(hH.mem.mem hI.ok).rR
  obtain⟨rb,ro,hRa,hcell⟩:=hrow rn _ (wcells_at M.roots rn hrl)
  have c7:=(hH.mem.mem hI.ok).roots
  simp only[Nat.zero_add] at c7
  rw[hRa] at c7
  have q0:=hH.ptr
  have hltz:(rn:Int)<(M.roots.length:Int):=by omega
  have hC7:=Lib.hid c7
  have hQ0:=Lib.hid q0
  have hCE:=Lib.hid hcell
  cases hp:ptrB (M.roots.getD rn 0) with
  | false =>
   have e1:fieldC M (rn:Int) f s=3:=by unfold fieldC;rw[hR',Int.toNat_natCast,hp];rfl
   rw[e1,if_neg (by decide)]
   have HPT:=Lib.hid hp
   generalize M.roots.getD rn 0=u at *
   clear hH hI hE hR hR' e1 hgM hs hob hro hlM hp hfd hrow hRa c7 q0 hcell
   go_enter Tryz.func50,Tryz.ntmps50
   go_upto_region 3 with (go_at_call 40;refine (root2_any _ (HH.out.ext ((Ext.refl w).alloc_ _)) HI.out.ok w.heap.size (rn:Int) s hr0 hs0 (by rw[World.cell?,heap_alloc_new];rfl) (by rw[World.cell?,heap_alloc_new];rfl)).mono ?_;rintro e w1 ⟨he,hq⟩;rw[HR.out] at he;subst he;have HX1:Hid (Ext w w1):=((Ext.refl w).alloc_ _).trans_ hq;clear hq)
   have q1:=HX1.out.cell_ hQ0.out
   have q2:=HX1.out.cell_ hC7.out
   have q3:=HX1.out.cell_ hCE.out
   go_upto_region 5 with (go_at_call 47;refine (head_no _ u hub.1 hub.2 _ HPT.out).mono ?_;rintro e w3 ⟨he,hq⟩;(try unfold headV at he);subst he;have HX3:Hid (Ext w w3):=HX1.out.trans_ hq;clear hq)
   have k3:∀ o,(w3.alloc o).cell? ⟨3,0,none⟩=some (errV (E 2)):=fun o=>(HE.out.ext (HX3.out.alloc_ o)).shape
   go_region
   go_wp2
   go_ret2
   exact⟨rfl,by repeat (first|exact HX3.out|(refine Ext.drew_ ?_)|(refine Ext.alloc_ ?_ _))⟩
  | true =>
   obtain⟨hk,hz,x,hx,hpl⟩:=ptr_ob hgM hfd hp
   obtain⟨m1,m2,m3⟩:=mem_in hs hx
   have hxw:=wat_in hI.ok x.a
   rw[←m2] at hxw
   obtain⟨k0,k1,-,-,-,-,z0⟩:=hd_in x.w hxw.1
   have z1:=((isHd_iff x.w).1 m3).2.2
   have z1':hSize x.w≤4096:=z1
   have hkd:hKind (wat M.W (placeW (M.roots.getD rn 0)).toNat)=hKind x.w:=by rw[hpl,Int.toNat_natCast,←m2]
   have hsd:hSize (wat M.W (placeW (M.roots.getD rn 0)).toNat)=hSize x.w:=by rw[hpl,Int.toNat_natCast,←m2]
   have hfP:fieldP M (rn:Int) f=x.a+1+f.toNat:=by unfold fieldP;rw[Int.toNat_natCast,hpl,Int.toNat_natCast]
   cases hraw:rawB (hKind x.w) with
   | true =>
    have e1:fieldC M (rn:Int) f s=3:=by unfold fieldC;rw[hR',Int.toNat_natCast,hp,hkd,hraw];rfl
    rw[e1,if_neg (by decide)]
    have HRW:=Lib.hid hraw
    have HMM:=Lib.hid (hH.mem.mem hI.ok)
    have HGM:=Lib.hid hgM
    have HHY:=Lib.hid (⟨hk,hz,hx,hpl⟩:kindW (M.roots.getD rn 0)=0∧M.roots.getD rn 0≠0∧x∈objsAll M∧placeW (M.roots.getD rn 0)=(x.a:Int))
    generalize M.roots.getD rn 0=u at *
    clear hH hI hE hR hR' e1 hgM hs hob hro hp hfd hrow hRa c7 q0 hcell hkd hsd hfP hraw m2 hk hz hpl hx
    go_enter Tryz.func50,Tryz.ntmps50
    go_upto_region 3 with (go_at_call 40;refine (root2_any _ (HH.out.ext ((Ext.refl w).alloc_ _)) HI.out.ok w.heap.size (rn:Int) s hr0 hs0 (by rw[World.cell?,heap_alloc_new];rfl) (by rw[World.cell?,heap_alloc_new];rfl)).mono ?_;rintro e w1 ⟨he,hq⟩;rw[HR.out] at he;subst he;have HX1:Hid (Ext w w1):=((Ext.refl w).alloc_ _).trans_ hq;clear hq)
    have q1:=HX1.out.cell_ hQ0.out
    have q2:=HX1.out.cell_ hC7.out
    have q3:=HX1.out.cell_ hCE.out
    go_upto_region 5 with (first
     | (go_at_call 47;refine (head_yes u hub.1 hub.2 _ (HMM.out.ext HX1.out) (HX1.out.cell_ hQ0.out) HGM.out HHY.out.1 HHY.out.2.1 x HHY.out.2.2.1 HHY.out.2.2.2).mono ?_;rintro e w3 ⟨he,hq⟩;(try unfold headV at he);subst he;have HX3:Hid (Ext w w3):=HX1.out.trans_ hq;clear hq)
     | (go_at_call 89;refine (raw_any _ _).mono ?_;rintro e w9 ⟨he,hw9⟩;rw[HRW.out] at he;subst he;have hw9:=hw9.symm;subst hw9))
    have k3:∀ o,(w3.alloc o).cell? ⟨3,0,none⟩=some (errV (E 2)):=fun o=>(HE.out.ext (HX3.out.alloc_ o)).shape
    go_region
    go_wp2
    go_ret2
    exact⟨rfl,by repeat (first|exact HX3.out|(refine Ext.drew_ ?_)|(refine Ext.alloc_ ?_ _))⟩
   | false =>
    have e0:fieldC M (rn:Int) f s=if 0≤f∧f<hSize x.w then 0 else 2:=by
     unfold fieldC
     rw[hR',Int.toNat_natCast,hp,hkd,hraw]
     simp only[Bool.not_false,Bool.and_self,if_true]
     split<;>split<;>first|rfl|(rename_i q1 q2;rw[hsd] at q1;exact absurd q1 q2)|(rename_i q1 q2;rw[hsd] at q1;exact absurd q2 q1)
    have HRW:=Lib.hid hraw
    have HMM:=Lib.hid (hH.mem.mem hI.ok)
    have HGM:=Lib.hid hgM
    have HHY:=Lib.hid (⟨hk,hz,hx,hpl⟩:kindW (M.roots.getD rn 0)=0∧M.roots.getD rn 0≠0∧x∈objsAll M∧placeW (M.roots.getD rn 0)=(x.a:Int))
    rw[hfP]
    by_cases hf1:0≤f∧f<hSize x.w
    ·rw[e0,if_pos hf1,if_pos rfl]
     obtain⟨fn,rfl⟩:∃ fn:Nat,f=(fn:Int):=⟨f.toNat,by omega⟩
     have hc0:¬(fn:Int)<0:=by omega
     have hc1:¬hSize x.w≤(fn:Int):=by omega
     have w1e:IntKind.i64.wrap ((x.a:Int)+1)=(x.a:Int)+1:=IntWalk.i64_in _ (by omega)
     have w2e:IntKind.i64.wrap ((x.a:Int)+1+(fn:Int))=((x.a+1+fn:Nat):Int):=by rw[IntWalk.i64_in _ (by omega)];omega
     rw[Int.toNat_natCast]
     generalize M.roots.getD rn 0=u at *
     clear hH hI hE hR hR' e0 hgM hs hob hro hp hfd hrow hRa c7 q0 hcell hkd hsd hfP hraw m2 hk hz hpl hx hf1
     go_enter Tryz.func50,Tryz.ntmps50
     go_upto_region 3 with (go_at_call 40;refine (root2_any _ (HH.out.ext ((Ext.refl w).alloc_ _)) HI.out.ok w.heap.size (rn:Int) s hr0 hs0 (by rw[World.cell?,heap_alloc_new];rfl) (by rw[World.cell?,heap_alloc_new];rfl)).mono ?_;rintro e w1 ⟨he,hq⟩;rw[HR.out] at he;subst he;have HX1:Hid (Ext w w1):=((Ext.refl w).alloc_ _).trans_ hq;clear hq)
     have q1:=HX1.out.cell_ hQ0.out
     have q2:=HX1.out.cell_ hC7.out
     have q3:=HX1.out.cell_ hCE.out
     go_wp2_with (first
      | (go_at_call 47;refine (head_yes u hub.1 hub.2 _ (HMM.out.ext HX1.out) (HX1.out.cell_ hQ0.out) HGM.out HHY.out.1 HHY.out.2.1 x HHY.out.2.2.1 HHY.out.2.2.2).mono ?_;rintro e w3 ⟨he,hq⟩;(try unfold headV at he);subst he;have HX3:Hid (Ext w w3):=HX1.out.trans_ hq;clear hq)
      | (go_at_call 89;refine (raw_any _ _).mono ?_;rintro e w9 ⟨he,hw9⟩;rw[HRW.out] at he;subst he;have hw9:=hw9.symm;subst hw9))
     go_ret2
     exact⟨rfl,by repeat (first|exact HX3.out|(refine Ext.drew_ ?_)|(refine Ext.alloc_ ?_ _))⟩
    ·rw[e0,if_neg hf1,if_neg (by decide)]
     have hcs:f<0∨(¬f<0∧hSize x.w≤f):=by omega
     generalize M.roots.getD rn 0=u at *
     clear hH hI hE hR hR' e0 hgM hs hob hro hp hfd hrow hRa c7 q0 hcell hkd hsd hfP hraw m2 hk hz hpl hx hf1
     rcases hcs with b1|⟨b1,b2⟩
     all_goals
      go_enter Tryz.func50,Tryz.ntmps50
      go_upto_region 3 with (go_at_call 40;refine (root2_any _ (HH.out.ext ((Ext.refl w).alloc_ _)) HI.out.ok w.heap.size (rn:Int) s hr0 hs0 (by rw[World.cell?,heap_alloc_new];rfl) (by rw[World.cell?,heap_alloc_new];rfl)).mono ?_;rintro e w1 ⟨he,hq⟩;rw[HR.out] at he;subst he;have HX1:Hid (Ext w w1):=((Ext.refl w).alloc_ _).trans_ hq;clear hq)
      have q1:=HX1.out.cell_ hQ0.out
      have q2:=HX1.out.cell_ hC7.out
      have q3:=HX1.out.cell_ hCE.out
      go_upto_region 7 with (first
       | (go_at_call 47;refine (head_yes u hub.1 hub.2 _ (HMM.out.ext HX1.out) (HX1.out.cell_ hQ0.out) HGM.out HHY.out.1 HHY.out.2.1 x HHY.out.2.2.1 HHY.out.2.2.2).mono ?_;rintro e w3 ⟨he,hq⟩;(try unfold headV at he);subst he;have HX3:Hid (Ext w w3):=HX1.out.trans_ hq;clear hq)
       | (go_at_call 89;refine (raw_any _ _).mono ?_;rintro e w9 ⟨he,hw9⟩;rw[HRW.out] at he;subst he;have hw9:=hw9.symm;subst hw9))
      have k3:∀ o,(w3.alloc o).cell? ⟨0,0,none⟩=some (errV (E 1)):=fun o=>(HE.out.ext (HX3.out.alloc_ o)).bound
      go_region
      go_wp2
      go_ret2
      exact⟨rfl,by repeat (first|exact HX3.out|(refine Ext.drew_ ?_)|(refine Ext.alloc_ ?_ _))⟩
theorem get_err (w:World) (hH:OHeap w B hb b M S ten nx) (hI:HInv M nx) (hE:G4 E w) (r f s:Int) (hr0:-9223372036854775808≤r∧r≤9223372036854775807) (hs0:-9223372036854775808≤s∧s≤9223372036854775807) (hc:fieldC M r f s≠0) :
  Calls Tryz.prog 69 #[.pointer (some ⟨hb,0,none⟩),.int .i64 r,.int .i64 f,.int .i64 s] w (HPost w B hb b S ten M nx (errC E (fieldC M r f s))):=by
 have HH:=Lib.hid hH
 have HI:=Lib.hid hI
 have HE:=Lib.hid hE
 obtain⟨ea,hv⟩:∃ ea,Hid (errC E (fieldC M r f s)=errV ea):=⟨_,errC_pos E _ hc⟩
 rw[hv.out]
 have HC:=Lib.hid hc
 clear hH hI hE hc
 go_enter Tryz.func69,Tryz.ntmps69
 go_wp2_with (go_at_call 50;refine (field_walk w HH.out HI.out HE.out r f s hr0 hs0).mono ?_;rintro e w1 ⟨he,hq⟩;rw[if_neg HC.out,hv.out] at he;subst he;have HX1:=Lib.hid hq;clear hq)
 go_ret
 exact⟨rfl,S,HH.out.ext HX1.out,HStep.of_ext HX1.out⟩
theorem put_err (w:World) (hH:OHeap w B hb b M S ten nx) (hI:HInv M nx) (hE:G4 E w) (r f s:Int) (hr0:-9223372036854775808≤r∧r≤9223372036854775807) (hs0:-9223372036854775808≤s∧s≤9223372036854775807) (hc:fieldC M r f s≠0) :
  Calls Tryz.prog 16 #[.pointer (some ⟨hb,0,none⟩),.int .i64 r,.int .i64 f,.int .i64 s] w (HPost w B hb b S ten M nx (errC E (fieldC M r f s))):=by
 have HH:=Lib.hid hH
 have HI:=Lib.hid hI
 have HE:=Lib.hid hE
 obtain⟨ea,hv⟩:∃ ea,Hid (errC E (fieldC M r f s)=errV ea):=⟨_,errC_pos E _ hc⟩
 rw[hv.out]
 have HC:=Lib.hid hc
 clear hH hI hE hc
 go_enter Tryz.func16,Tryz.ntmps16
 go_wp2_with (go_at_call 50;refine (field_walk w HH.out HI.out HE.out r f s hr0 hs0).mono ?_;rintro e w1 ⟨he,hq⟩;rw[if_neg HC.out,hv.out] at he;subst he;have HX1:=Lib.hid hq;clear hq)
 go_ret
 exact⟨rfl,S,HH.out.ext HX1.out,HStep.of_ext HX1.out⟩
theorem get_walk (w:World) (hH:OHeap w B hb b M S ten nx) (hI:HInv M nx) (hE:G4 E w) (r f s:Int) (hr0:-9223372036854775808≤r∧r≤9223372036854775807) (hs0:-9223372036854775808≤s∧s≤9223372036854775807) (hc:fieldC M r f s=0) :
  Calls Tryz.prog 69 #[.pointer (some ⟨hb,0,none⟩),.int .i64 r,.int .i64 f,.int .i64 s] w (HPost w B hb b S ten (rootM M s.toNat (wat M.W (fieldP M r f))) nx (errC E 0)):=by
 have HH:=Lib.hid hH
 have HI:=Lib.hid hI
 have HE:=Lib.hid hE
 have HF:=Lib.hid hc
 obtain⟨rn,sn,fn,x,h1,h2,h3,hrl,hsl,hx,hpl,hraw,hfn,hP⟩:=fieldC_ok (chk_zero hI.chk).1 hc
 obtain⟨hs,-⟩:=good_parts (chk_zero hI.chk).1
 obtain⟨m1,-,-⟩:=mem_in hs hx
 have HPP:=Lib.hid hP
 obtain⟨p,hp⟩:∃ p,p=fieldP M r f:=⟨_,rfl⟩
 have hpl2:p<M.W.length:=by omega
 have HP:=Lib.hid hp
 have hrb:∀ k,k<M.roots.length→0≤M.roots.getD k 0∧M.roots.getD k 0≤18446744073709551615:=fun k hk=>getD_in (P:=fun x=>0≤x∧x≤18446744073709551615) hI.ok.roots hk
 have hrs:r.toNat=rn∧s.toNat=sn:=by omega
 have hsz:(s:Int)=(sn:Int):=h2
 have hslz:(sn:Int)<(M.roots.length:Int):=by omega
 rw[hrs.2,←hp]
 have HSH:=Lib.hid hs
 clear hI hE hc h1 h3 hx hpl hraw hfn hP hp hs m1 hrs
 subst hsz
 have h0:errC E 0=.nilIface:=rfl
 rw[h0]
 go_enter Tryz.func69,Tryz.ntmps69
 go_upto_region 3 with (go_at_call 50;refine (field_walk w HH.out HI.out HE.out r f (sn:Int) hr0 hs0).mono ?_;rintro e w1 ⟨he,hq⟩;rw[if_pos HF.out,HF.out,show errC E 0=.nilIface from rfl,←HP.out] at he;subst he;have HX1:=Lib.hid hq;clear hq)
 have hH1:=HH.out.ext HX1.out
 have q0:=hH1.ptr
 obtain⟨g,hg,-,-,hgf,-,-⟩:=own_block (OMem.fR hH1.mem) (by omega)
 have hfg:=hgf sn
 have hM1:=hH1.mem.mem HI.out.ok
 have c7:=hM1.roots
 have c3:=hM1.W
 simp only[Nat.zero_add] at c7 c3
 obtain⟨wb,wo,hWa,hcW⟩:=hM1.rW p _ (wcells_at M.W p hpl2)
 have hcell:w1.cell? ⟨wb,wo+p,none⟩=some (.int .u64 (wat M.W p)):=hcW
 have hrow:=hM1.rR
 rw[hg] at hrow c7
 rw[hWa] at c3
 have hcel2:=hrow.at_ (wcells_at M.roots sn hsl)
 simp only[Nat.zero_add] at hcel2
 have hpz:(p:Int)<(M.W.length:Int):=by omega
 have HG:=Lib.hid hg
 have HSL:=Lib.hid hsl
 generalize M.roots.getD sn 0=yy at *
 generalize wat M.W p=vv at *
 clear hH1 hgf hg hrow hM1 hWa hcW hrb
 go_region
 go_wp2
 go_ret
 obtain⟨z1,z2⟩:=(HH.out.ext (HX1.out.drew_)).step (OMem.setR (HH.out.ext (HX1.out.drew_)).mem HG.out sn HSL.out vv) (Keep.set_ (L:=OwnA b S) (Keep.refl _ _) (p:=⟨g,sn,none⟩) (Or.inl (Or.inr (Or.inr (Or.inl HG.out)))) _) (fun _ q=>Or.inl q)
 exact⟨rfl,S,z1,(HStep.of_ext (HX1.out.drew_)).trans_ z2⟩
theorem put_walk (w:World) (hH:OHeap w B hb b M S ten nx) (hI:HInv M nx) (hE:G4 E w) (r f s:Int) (hr0:-9223372036854775808≤r∧r≤9223372036854775807) (hs0:-9223372036854775808≤s∧s≤9223372036854775807) (hc:fieldC M r f s=0) :
  Calls Tryz.prog 16 #[.pointer (some ⟨hb,0,none⟩),.int .i64 r,.int .i64 f,.int .i64 s] w (HPost w B hb b S ten (storeM M (fieldP M r f) (M.roots.getD s.toNat 0)) nx (errC E 0)):=by
 have HH:=Lib.hid hH
 have HI:=Lib.hid hI
 have HE:=Lib.hid hE
 have HF:=Lib.hid hc
 obtain⟨rn,sn,fn,x,h1,h2,h3,hrl,hsl,hx,hpl,hraw,hfn,hP⟩:=fieldC_ok (chk_zero hI.chk).1 hc
 obtain⟨hs,-⟩:=good_parts (chk_zero hI.chk).1
 obtain⟨m1,-,-⟩:=mem_in hs hx
 have HPP:=Lib.hid hP
 obtain⟨p,hp⟩:∃ p,p=fieldP M r f:=⟨_,rfl⟩
 have hpl2:p<M.W.length:=by omega
 have HP:=Lib.hid hp
 have hrb:∀ k,k<M.roots.length→0≤M.roots.getD k 0∧M.roots.getD k 0≤18446744073709551615:=fun k hk=>getD_in (P:=fun x=>0≤x∧x≤18446744073709551615) hI.ok.roots hk
 have hrs:r.toNat=rn∧s.toNat=sn:=by omega
 have hsz:(s:Int)=(sn:Int):=h2
 have hslz:(sn:Int)<(M.roots.length:Int):=by omega
 rw[hrs.2,←hp]
 have HSH:=Lib.hid hs
 clear hI hE hc h1 h3 hx hpl hraw hfn hP hp hs m1 hrs
 subst hsz
 have h0:errC E 0=.nilIface:=rfl
 rw[h0]
 go_enter Tryz.func16,Tryz.ntmps16
 go_upto_region 3 with (go_at_call 50;refine (field_walk w HH.out HI.out HE.out r f (sn:Int) hr0 hs0).mono ?_;rintro e w1 ⟨he,hq⟩;rw[if_pos HF.out,HF.out,show errC E 0=.nilIface from rfl,←HP.out] at he;subst he;have HX1:=Lib.hid hq;clear hq)
 have hH1:=HH.out.ext HX1.out
 have q0:=hH1.ptr
 have hM1:=hH1.mem.mem HI.out.ok
 have c7:=hM1.roots
 simp only[Nat.zero_add] at c7
 obtain⟨rb,ro,hRa,hcell⟩:=hM1.rR sn _ (wcells_at M.roots sn hsl)
 rw[hRa] at c7
 have hvv:=hrb sn hsl
 have HRA:=Lib.hid hRa
 obtain⟨vv,hvE⟩:∃ vv,vv=M.roots.getD sn 0:=⟨_,rfl⟩
 rw[←hvE] at hcell hvv ⊢
 have HVV:=Lib.hid hvE
 clear hH1 hM1 hRa hrb hvE
 refine wp_region_held_drew (S:=fun W=>W.cell? ⟨hb,0,none⟩=some (.pointer (some ⟨b,0,none⟩))∧W.cell? ⟨b,7,none⟩=some (.slice (some ⟨rb,ro,none⟩) M.roots.length S.R.2)∧W.cell? ⟨rb,ro+sn,none⟩=some (.int .u64 vv)) (by kernel_rfl) ?_ (fun hHeld=>?_)
 ·exact⟨q0,c7,hcell⟩
 refine tk 0 ⟨some 21,_,_,_,_,_⟩ ?_ rfl ?_ ?_
 rotate_left
 ·(intro w hSw;(try dsimp only at hSw);go_simp;try with_reducible rfl)
 try simp only[tkS]
 refine tk 1 ⟨some 22,_,_,_,_,_⟩ ?_ rfl ?_ ?_
 rotate_left
 ·(intro w hSw;(try dsimp only at hSw);go_simp;try with_reducible rfl)
 try simp only[tkS]
 refine tk 2 ⟨some 23,_,_,_,_,_⟩ ?_ rfl ?_ ?_
 rotate_left
 ·(intro w hSw;(try dsimp only at hSw);go_simp;try with_reducible rfl)
 try simp only[tkS]
 refine tk 3 ⟨some 24,_,_,_,_,_⟩ ?_ rfl ?_ ?_
 rotate_left
 ·(intro w hSw;(try dsimp only at hSw);go_simp;try with_reducible rfl)
 try simp only[tkS]
 refine tk 4 ⟨some 25,_,_,_,_,_⟩ ?_ rfl ?_ ?_
 rotate_left
 ·(intro w hSw;(try dsimp only at hSw);go_simp;try with_reducible rfl)
 try simp only[tkS]
 refine tk 5 ⟨some 26,_,_,_,_,_⟩ ?_ rfl ?_ ?_
 rotate_left
 ·(intro w hSw;(try dsimp only at hSw);go_simp;try with_reducible rfl)
 try simp only[tkS]
 refine tk 6 ⟨some 27,_,_,_,_,_⟩ ?_ rfl ?_ ?_
 rotate_left
 ·(intro w hSw;(try dsimp only at hSw);go_simp;try with_reducible rfl)
 try simp only[tkS]
 refine tk 7 ⟨some 28,_,_,_,_,_⟩ ?_ rfl ?_ ?_
 rotate_left
 ·(intro w hSw;(try dsimp only at hSw);go_simp;try with_reducible rfl)
 try simp only[tkS]
 refine tk 8 ⟨some 29,_,_,_,_,_⟩ ?_ rfl ?_ ?_
 rotate_left
 ·(intro w hSw;(try dsimp only at hSw);go_simp;try with_reducible rfl)
 try simp only[tkS]
 refine tk 9 ⟨some 30,_,_,_,_,_⟩ ?_ rfl ?_ ?_
 rotate_left
 ·(intro w hSw;(try dsimp only at hSw);go_simp;try with_reducible rfl)
 try simp only[tkS]
 refine tk 10 ⟨some 31,_,_,_,_,_⟩ ?_ rfl ?_ ?_
 rotate_left
 ·(intro w hSw;(try dsimp only at hSw);go_simp;try with_reducible rfl)
 try simp only[tkS]
 refine tk 11 ⟨some 32,_,_,_,_,_⟩ ?_ rfl ?_ ?_
 rotate_left
 ·(intro w hSw;(try dsimp only at hSw);go_simp;try with_reducible rfl)
 try simp only[tkS]
 refine tk 12 ⟨some 33,_,_,_,_,_⟩ ?_ rfl ?_ ?_
 rotate_left
 ·(intro w hSw;(try dsimp only at hSw);go_simp;try with_reducible rfl)
 try simp only[tkS]
 refine tk 13 ⟨some 34,_,_,_,_,_⟩ ?_ rfl ?_ ?_
 rotate_left
 ·(intro w hSw;(try dsimp only at hSw);go_simp;try with_reducible rfl)
 try simp only[tkS]
 refine tk 14 ⟨some 35,_,_,_,_,_⟩ ?_ rfl ?_ ?_
 rotate_left
 ·(intro w hSw;(try dsimp only at hSw);go_simp;try with_reducible rfl)
 try simp only[tkS]
 refine wpAnyH_ready (rs:=[15]) (by kernel_rfl) (by simp) ?_
 refine AllReadyH.cons (o:=⟨some 36,_,_,_,_,_⟩) rfl (fun K hK=>?_) AllReadyH.nil
 go_simp
 refine (store_obj B b M S _ (OM.ext HH.out.mem (HX1.out.trans_ (by repeat (first|exact Ext.refl _|(refine Ext.drew_ ?_)|(refine Ext.drewN_ ?_ _))))) HI.out.ok HSH.out p hpl2 vv hvv.1 hvv.2).mono ?_
 rintro e w5 ⟨rfl,hq1,hq2⟩
 obtain⟨z1,z2⟩:=(HH.out.ext (HX1.out.trans_ (Ext.refl w1).drew_)).step hq1 (hq2.sub fun k=>OwnL.ownA) (fun _ q=>Or.inl q)
 have HZ1:=Lib.hid z1
 have HZ2:Hid (HStep hb b w S w5 S):=(HStep.of_ext (HX1.out.trans_ (Ext.refl w1).drew_)).trans_ z2
 have y0:=z1.ptr
 have y7:=(z1.mem.fld ⟨7,78,1,S.R.1,(storeM M p vv).roots.length,S.R.2,wcells (storeM M p vv).roots⟩ (by simp[memFlds])).1
 have yR:=(row_rsl (OMem.fR z1.mem)).1
 rw[(storeM_same M p vv).2.2.2.2.2.2.1] at y7 yR
 rw[HRA.out] at yR
 simp only[Fld.val,HRA.out] at y7
 have yc:=yR.at_ (wcells_at M.roots sn hsl)
 clear z1 z2 hq1 hq2 yR
 refine hK.out _ _ ?_ (fun hHeld=>?_)
 ·(try dsimp only);exact⟨y0,y7,by rw[HVV.out];exact yc⟩
 clear hK K
 try simp only[tkS]
 refine wpAnyH_done (by kernel_rfl) ?_ _
 clear hHeld
 go_wp2
 go_ret
 have hz:=HZ1.out
 rw[HVV.out] at hz
 exact⟨rfl,S,hz,HZ2.out⟩
end
section
variable {w:World} {B b:Nat} {tI:TypeId} {M:Mem} {S:Sls}
theorem OMem.own_of (h:OMem w B b tI M S) {f:Fld} (hf:f∈memFlds tI M S) {k:Nat} (hk:f.val.ownBlock=some k):OwnA b S k:=by
 have ho':=(h.fld f hf).2.1
 have ha:f.a=some ⟨k,0,none⟩:=by
  rcases ho'.2 with⟨h2,_⟩|⟨g,cap,cur,hv,_⟩
  ·rw[h2] at hk;cases hk
  ·rw[hv] at hk
   simp[Value.ownBlock] at hk
   subst hk
   unfold Fld.val at hv
   injection hv
 simp only[memFlds,List.mem_cons,List.not_mem_nil,or_false] at hf
 rcases hf with rfl|rfl|rfl|rfl|rfl<;>simp_all [OwnA]
end
theorem rslH (w:World) (e:TypeId) (a:Array Value):RSl (w.alloc (.cells a e)) (some ⟨w.heap.size,0,none⟩) a.toList:=fun j u hu=>by
 refine⟨_,_,rfl,?_⟩
 rw[Nat.zero_add,cell_of_row _ _ j a e (0,0) (heap_alloc_new w _)]
 simpa using hu
section
variable {B hb b:Nat} {M:Mem} {S:Sls} {E:Nat→Addr} {ten nx:Int}
theorem OMem.apartRK {w:World} {tI:TypeId} (h:OMem w B b tI M S) {g:Nat} (hR:S.R.1=some ⟨g,0,none⟩):(Value.slice S.K.1 M.weak.length S.K.2).ownBlock≠some g:=by
 have:=h.apart
 simp only[memFlds,List.pairwise_cons] at this
 exact this.2.1 ⟨8,78,1,S.K.1,M.weak.length,S.K.2,wcells M.weak⟩ (by simp) g (by simp[Fld.val,hR,Value.ownBlock])
theorem OHeap.pushWeak {W v2:World} (h:OHeap W B hb b M S ten nx) (x:Int) (a2:Option Addr) (c2:Nat) (hg:W.grownBy v2 (Value.slice S.K.1 M.weak.length S.K.2).ownBlock)
  (ho:v2.ownsRow B 78 1 (.slice a2 (M.weak.length+1) c2) (M.weak.length+1) (wcells M.weak++[.int .u64 x])) (hat:(Value.slice a2 (M.weak.length+1) c2).ownBlock=(Value.slice S.K.1 M.weak.length S.K.2).ownBlock∨(Value.slice a2 (M.weak.length+1) c2).ownBlock=some W.heap.size) :
  OHeap (v2.setCell ⟨b,8,none⟩ (.slice a2 (M.weak.length+1) c2)) B hb b {M with weak:=M.weak++[x]} {S with K:=(a2,c2)} ten nx∧HStep hb b W S (v2.setCell ⟨b,8,none⟩ (.slice a2 (M.weak.length+1) c2)) {S with K:=(a2,c2)} ∧
   Keep (OwnA b S) W v2∧v2.cell? ⟨b,8,none⟩=some (.slice S.K.1 M.weak.length S.K.2)∧v2.frozen? ⟨b,8,none⟩=false:=by
 have hM:OMem (v2.setCell ⟨b,8,none⟩ (.slice a2 (M.weak.length+1) c2)) B b 140 {M with weak:=M.weak++[x]} {S with K:=(a2,c2)}:=by
  have:=OM.push (L1:=(memFlds 140 M S).take 2) (L2:=(memFlds 140 M S).drop 3) (f:=⟨8,78,1,S.K.1,M.weak.length,S.K.2,wcells M.weak⟩) h.mem a2 (M.weak.length+1) c2 _ hg ho hat
  unfold OMem memFlds
  rw[show wcells (M.weak++[x])=wcells M.weak++[.int .u64 x] from by simp[wcells],show (M.weak++[x]).length=M.weak.length+1 from by simp]
  exact this
 have hk1:Keep (OwnA b S) W v2:=Keep.of_grown hg fun k hk=>Or.inl (OMem.own_of h.mem (f:=⟨8,78,1,S.K.1,M.weak.length,S.K.2,wcells M.weak⟩) (by simp[memFlds]) hk)
 have hne:∀ e,(Value.slice S.K.1 M.weak.length S.K.2).ownBlock=some e→e≠b:=fun e he q=>(h.mem.fld ⟨8,78,1,S.K.1,M.weak.length,S.K.2,wcells M.weak⟩ (by simp[memFlds])).2.2 (by rw[←q];exact he)
 have hbk:=hg.block b (OM.lt h.mem) (fun e=>hne _ e.symm rfl)
 obtain⟨z1,z2⟩:=h.step hM (hk1.set_ (Or.inl (Or.inl rfl)) _) (fun k hk=>by
  have new:a2=some ⟨k,0,none⟩→OwnA b S k∨W.heap.size≤k:=fun q=>by
   rw[q] at hat
   rcases hat with e|e
   ·exact Or.inl (OMem.own_of h.mem (f:=⟨8,78,1,S.K.1,M.weak.length,S.K.2,wcells M.weak⟩) (by simp[memFlds]) e.symm)
   ·right
    have:k=W.heap.size:=by simpa [Value.ownBlock] using e
    omega
  rcases hk with q|q|q|q|q|q
  ·exact Or.inl (Or.inl q)
  ·exact Or.inl (Or.inr (Or.inl q))
  ·exact Or.inl (Or.inr (Or.inr (Or.inl q)))
  ·exact new q
  ·exact Or.inl (Or.inr (Or.inr (Or.inr (Or.inr (Or.inl q)))))
  ·exact Or.inl (Or.inr (Or.inr (Or.inr (Or.inr (Or.inr q))))))
 exact⟨z1,z2,hk1,by rw[World.cell?_of_block (w:=W) (a:=⟨b,8,none⟩) hbk];exact (h.mem.fld ⟨8,78,1,S.K.1,M.weak.length,S.K.2,wcells M.weak⟩ (by simp[memFlds])).1,by rw[World.frozen?_of_block (w:=W) (a:=⟨b,8,none⟩) hbk];exact OM.frozen h.mem 8⟩
theorem OHeap.pushId {W v2:World} (h:OHeap W B hb b M S ten nx) (x:Int × Int) (a2:Option Addr) (c2:Nat) (hg:W.grownBy v2 (Value.slice S.I.1 M.ids.length S.I.2).ownBlock)
  (ho:v2.ownsRow B 140 2 (.slice a2 (M.ids.length+1) c2) (M.ids.length+1) (icells M.ids++[.int .u64 x.1,.int .i64 x.2])) (hat:(Value.slice a2 (M.ids.length+1) c2).ownBlock=(Value.slice S.I.1 M.ids.length S.I.2).ownBlock∨(Value.slice a2 (M.ids.length+1) c2).ownBlock=some W.heap.size) :
  OHeap (v2.setCell ⟨b,9,none⟩ (.slice a2 (M.ids.length+1) c2)) B hb b {M with ids:=M.ids++[x]} {S with I:=(a2,c2)} ten nx∧HStep hb b W S (v2.setCell ⟨b,9,none⟩ (.slice a2 (M.ids.length+1) c2)) {S with I:=(a2,c2)} ∧
   Keep (OwnA b S) W v2∧v2.cell? ⟨b,9,none⟩=some (.slice S.I.1 M.ids.length S.I.2)∧v2.frozen? ⟨b,9,none⟩=false:=by
 have hM:OMem (v2.setCell ⟨b,9,none⟩ (.slice a2 (M.ids.length+1) c2)) B b 140 {M with ids:=M.ids++[x]} {S with I:=(a2,c2)}:=by
  have:=OM.push (L1:=(memFlds 140 M S).take 3) (L2:=(memFlds 140 M S).drop 4) (f:=⟨9,140,2,S.I.1,M.ids.length,S.I.2,icells M.ids⟩) h.mem a2 (M.ids.length+1) c2 _ hg ho hat
  unfold OMem memFlds
  rw[show icells (M.ids++[x])=icells M.ids++[.int .u64 x.1,.int .i64 x.2] from by simp[icells],show (M.ids++[x]).length=M.ids.length+1 from by simp]
  exact this
 have hk1:Keep (OwnA b S) W v2:=Keep.of_grown hg fun k hk=>Or.inl (OMem.own_of h.mem (f:=⟨9,140,2,S.I.1,M.ids.length,S.I.2,icells M.ids⟩) (by simp[memFlds]) hk)
 have hne:∀ e,(Value.slice S.I.1 M.ids.length S.I.2).ownBlock=some e→e≠b:=fun e he q=>(h.mem.fld ⟨9,140,2,S.I.1,M.ids.length,S.I.2,icells M.ids⟩ (by simp[memFlds])).2.2 (by rw[←q];exact he)
 have hbk:=hg.block b (OM.lt h.mem) (fun e=>hne _ e.symm rfl)
 obtain⟨z1,z2⟩:=h.step hM (hk1.set_ (Or.inl (Or.inl rfl)) _) (fun k hk=>by
  have new:a2=some ⟨k,0,none⟩→OwnA b S k∨W.heap.size≤k:=fun q=>by
   rw[q] at hat
   rcases hat with e|e
   ·exact Or.inl (OMem.own_of h.mem (f:=⟨9,140,2,S.I.1,M.ids.length,S.I.2,icells M.ids⟩) (by simp[memFlds]) e.symm)
   ·right
    have:k=W.heap.size:=by simpa [Value.ownBlock] using e
    omega
  rcases hk with q|q|q|q|q|q
  ·exact Or.inl (Or.inl q)
  ·exact Or.inl (Or.inr (Or.inl q))
  ·exact Or.inl (Or.inr (Or.inr (Or.inl q)))
  ·exact Or.inl (Or.inr (Or.inr (Or.inr (Or.inl q))))
  ·exact new q
  ·exact Or.inl (Or.inr (Or.inr (Or.inr (Or.inr (Or.inr q))))))
 exact⟨z1,z2,hk1,by rw[World.cell?_of_block (w:=W) (a:=⟨b,9,none⟩) hbk];exact (h.mem.fld ⟨9,140,2,S.I.1,M.ids.length,S.I.2,icells M.ids⟩ (by simp[memFlds])).1,by rw[World.frozen?_of_block (w:=W) (a:=⟨b,9,none⟩) hbk];exact OM.frozen h.mem 9⟩
def headC (M:Mem) (r:Int):Int:=if rootB M r then (if ptrB (M.roots.getD r.toNat 0) then 0 else 3) else 5
theorem headC_ok (hg:goodB M=true) {r:Int} (h:headC M r=0):∃ (rn:Nat) (x:Ob),r=(rn:Int)∧rn<M.roots.length∧ptrB (M.roots.getD rn 0)=true∧kindW (M.roots.getD rn 0)=0∧M.roots.getD rn 0≠0∧x∈objsAll M∧placeW (M.roots.getD rn 0)=(x.a:Int):=by
 unfold headC at h
 split at h
 ·rename_i h1
  obtain⟨r0,r1⟩:=rootB_true.1 h1
  obtain⟨rn,rfl⟩:∃ rn:Nat,r=(rn:Int):=⟨r.toNat,by omega⟩
  split at h
  ·rename_i h2
   rw[Int.toNat_natCast] at h2
   obtain⟨hk,hz,x,hx,hpl⟩:=ptr_ob hg (fieldsB_at (good_parts hg).2.2.1 (by omega:rn<M.roots.length)) h2
   exact⟨rn,x,rfl,by omega,h2,hk,hz,hx,hpl⟩
  ·cases h
 ·cases h
theorem serial_err (w:World) (hH:OHeap w B hb b M S ten nx) (hI:HInv M nx) (hE:G4 E w) (r:Int) (hr0:-9223372036854775808≤r∧r≤9223372036854775807) (hc:headC M r≠0) :
  Calls Tryz.prog 14 #[.pointer (some ⟨hb,0,none⟩),.int .i64 r] w (fun e w'=>e=.returned (.tuple #[.int .i64 0,errC E (headC M r)])∧Ext w w'):=by
 have HH:=Lib.hid hH
 have HI:=Lib.hid hI
 have HE:=Lib.hid hE
 cases hR:rootB M r with
 | false =>
  have e1:headC M r=5:=by unfold headC;rw[hR];rfl
  rw[e1]
  have HR:=Lib.hid hR
  clear hH hI hE hR e1 hc
  go_enter Tryz.func14,Tryz.ntmps14
  go_upto_region 2 with (go_at_call 40;refine (root1_any _ (HH.out.ext ((Ext.refl w).alloc_ _)) HI.out.ok w.heap.size r hr0.1 hr0.2 (by rw[World.cell?,heap_alloc_new];rfl)).mono ?_;rintro e w1 ⟨he,hq⟩;rw[HR.out] at he;subst he;have HX1:Hid (Ext w w1):=((Ext.refl w).alloc_ _).trans_ hq;clear hq)
  have k3:=(HE.out.ext HX1.out).place
  go_region
  go_wp2
  go_ret2
  exact⟨rfl,HX1.out.drew_⟩
 | true =>
  obtain⟨r0,r1⟩:=rootB_true.1 hR
  obtain⟨rn,rfl⟩:∃ rn:Nat,r=(rn:Int):=⟨r.toNat,by omega⟩
  have hrl:rn<M.roots.length:=by omega
  have HR:=Lib.hid hR
  have hp:ptrB (M.roots.getD rn 0)=false:=by
   cases q:ptrB (M.roots.getD rn 0) with
   | false=>rfl
   | true=>exact absurd (by unfold headC;rw[hR,Int.toNat_natCast,q];rfl) hc
  have e1:headC M (rn:Int)=3:=by unfold headC;rw[hR,Int.toNat_natCast,hp];rfl
  rw[e1]
  have hub:0≤M.roots.getD rn 0∧M.roots.getD rn 0≤18446744073709551615:=getD_in (P:=fun x=>0≤x∧x≤18446744073709551615) hI.ok.roots hrl
  obtain⟨rb,ro,hRa,hcell⟩:=(hH.mem.mem hI.ok).rR rn _ (wcells_at M.roots rn hrl)
  have c7:=(hH.mem.mem hI.ok).roots
  simp only[Nat.zero_add] at c7
  rw[hRa] at c7
  have hltz:(rn:Int)<(M.roots.length:Int):=by omega
  have hC7:=Lib.hid c7
  have hQ0:=Lib.hid hH.ptr
  have hCE:=Lib.hid hcell
  have HPT:=Lib.hid hp
  generalize M.roots.getD rn 0=u at *
  clear hH hI hE hR e1 hc hp hRa hcell c7
  go_enter Tryz.func14,Tryz.ntmps14
  go_upto_region 3 with (go_at_call 40;refine (root1_any _ (HH.out.ext ((Ext.refl w).alloc_ _)) HI.out.ok w.heap.size (rn:Int) hr0.1 hr0.2 (by rw[World.cell?,heap_alloc_new];rfl)).mono ?_;rintro e w1 ⟨he,hq⟩;rw[HR.out] at he;subst he;have HX1:Hid (Ext w w1):=((Ext.refl w).alloc_ _).trans_ hq;clear hq)
  have q1:=HX1.out.cell_ hQ0.out
  have q2:=HX1.out.cell_ hC7.out
  have q3:=HX1.out.cell_ hCE.out
  go_upto_region 5 with (go_at_call 47;refine (head_no _ u hub.1 hub.2 _ HPT.out).mono ?_;rintro e w3 ⟨he,hq⟩;(try unfold headV at he);subst he;have HX3:Hid (Ext w w3):=HX1.out.trans_ hq;clear hq)
  have k3:∀ o,(w3.alloc o).cell? ⟨3,0,none⟩=some (errV (E 2)):=fun o=>(HE.out.ext (HX3.out.alloc_ o)).shape
  go_region
  go_wp2
  go_ret2
  exact⟨rfl,by repeat (first|exact HX3.out|(refine Ext.drew_ ?_)|(refine Ext.alloc_ ?_ _))⟩
theorem weak_err (w:World) (hH:OHeap w B hb b M S ten nx) (hI:HInv M nx) (hE:G4 E w) (r:Int) (hr0:-9223372036854775808≤r∧r≤9223372036854775807) (hc:headC M r≠0) :
  Calls Tryz.prog 70 #[.pointer (some ⟨hb,0,none⟩),.int .i64 r] w (fun e w'=>e=.returned (.tuple #[.int .i64 0,errC E (headC M r)])∧Ext w w'):=by
 have HH:=Lib.hid hH
 have HI:=Lib.hid hI
 have HE:=Lib.hid hE
 cases hR:rootB M r with
 | false =>
  have e1:headC M r=5:=by unfold headC;rw[hR];rfl
  rw[e1]
  have HR:=Lib.hid hR
  clear hH hI hE hR e1 hc
  go_enter Tryz.func70,Tryz.ntmps70
  go_upto_region 2 with (go_at_call 40;refine (root1_any _ (HH.out.ext ((Ext.refl w).alloc_ _)) HI.out.ok w.heap.size r hr0.1 hr0.2 (by rw[World.cell?,heap_alloc_new];rfl)).mono ?_;rintro e w1 ⟨he,hq⟩;rw[HR.out] at he;subst he;have HX1:Hid (Ext w w1):=((Ext.refl w).alloc_ _).trans_ hq;clear hq)
  have k3:=(HE.out.ext HX1.out).place
  go_region
  go_wp2
  go_ret2
  exact⟨rfl,HX1.out.drew_⟩
 | true =>
  obtain⟨r0,r1⟩:=rootB_true.1 hR
  obtain⟨rn,rfl⟩:∃ rn:Nat,r=(rn:Int):=⟨r.toNat,by omega⟩
  have hrl:rn<M.roots.length:=by omega
  have HR:=Lib.hid hR
  have hp:ptrB (M.roots.getD rn 0)=false:=by
   cases q:ptrB (M.roots.getD rn 0) with
   | false=>rfl
   | true=>exact absurd (by unfold headC;rw[hR,Int.toNat_natCast,q];rfl) hc
  have e1:headC M (rn:Int)=3:=by unfold headC;rw[hR,Int.toNat_natCast,hp];rfl
  rw[e1]
  have hub:0≤M.roots.getD rn 0∧M.roots.getD rn 0≤18446744073709551615:=getD_in (P:=fun x=>0≤x∧x≤18446744073709551615) hI.ok.roots hrl
  obtain⟨rb,ro,hRa,hcell⟩:=(hH.mem.mem hI.ok).rR rn _ (wcells_at M.roots rn hrl)
  have c7:=(hH.mem.mem hI.ok).roots
  simp only[Nat.zero_add] at c7
  rw[hRa] at c7
  have hltz:(rn:Int)<(M.roots.length:Int):=by omega
  have hC7:=Lib.hid c7
  have hQ0:=Lib.hid hH.ptr
  have hCE:=Lib.hid hcell
  have HPT:=Lib.hid hp
  generalize M.roots.getD rn 0=u at *
  clear hH hI hE hR e1 hc hp hRa hcell c7
  go_enter Tryz.func70,Tryz.ntmps70
  go_upto_region 3 with (go_at_call 40;refine (root1_any _ (HH.out.ext ((Ext.refl w).alloc_ _)) HI.out.ok w.heap.size (rn:Int) hr0.1 hr0.2 (by rw[World.cell?,heap_alloc_new];rfl)).mono ?_;rintro e w1 ⟨he,hq⟩;rw[HR.out] at he;subst he;have HX1:Hid (Ext w w1):=((Ext.refl w).alloc_ _).trans_ hq;clear hq)
  have q1:=HX1.out.cell_ hQ0.out
  have q2:=HX1.out.cell_ hC7.out
  have q3:=HX1.out.cell_ hCE.out
  go_upto_region 5 with (go_at_call 47;refine (head_no _ u hub.1 hub.2 _ HPT.out).mono ?_;rintro e w3 ⟨he,hq⟩;(try unfold headV at he);subst he;have HX3:Hid (Ext w w3):=HX1.out.trans_ hq;clear hq)
  have k3:∀ o,(w3.alloc o).cell? ⟨3,0,none⟩=some (errV (E 2)):=fun o=>(HE.out.ext (HX3.out.alloc_ o)).shape
  go_region
  go_wp2
  go_ret2
  exact⟨rfl,by repeat (first|exact HX3.out|(refine Ext.drew_ ?_)|(refine Ext.alloc_ ?_ _))⟩
theorem weak_walk (w:World) (hH:OHeap w B hb b M S ten nx) (hI:HInv M nx) (hE:G4 E w) (r:Int) (hr0:-9223372036854775808≤r∧r≤9223372036854775807) (hc:headC M r=0) (hfu:M.weak.length<5000) :
  Calls Tryz.prog 70 #[.pointer (some ⟨hb,0,none⟩),.int .i64 r] w (HPost w B hb b S ten {M with weak:=M.weak++[M.roots.getD r.toNat 0]} nx (.tuple #[.int .i64 (M.weak.length:Int),errC E 0])):=by
 have HH:=Lib.hid hH
 have HI:=Lib.hid hI
 have HE:=Lib.hid hE
 have hgM:=(chk_zero hI.chk).1
 obtain⟨rn,x,rfl,hrl,hpt,hk,hz,hx,hpl⟩:=headC_ok hgM hc
 have hR:rootB M (rn:Int)=true:=rootB_true.2 (by omega)
 have HR:=Lib.hid hR
 have hub:0≤M.roots.getD rn 0∧M.roots.getD rn 0≤18446744073709551615:=getD_in (P:=fun x=>0≤x∧x≤18446744073709551615) hI.ok.roots hrl
 obtain⟨rb,ro,hRa,hcell⟩:=(hH.mem.mem hI.ok).rR rn _ (wcells_at M.roots rn hrl)
 have c7:=(hH.mem.mem hI.ok).roots
 simp only[Nat.zero_add] at c7
 rw[hRa] at c7
 have hltz:(rn:Int)<(M.roots.length:Int):=by omega
 have hC7:=Lib.hid c7
 have hQ0:=Lib.hid hH.ptr
 have hCE:=Lib.hid hcell
 have HMM:=Lib.hid (hH.mem.mem hI.ok)
 have HGM:=Lib.hid hgM
 have HHY:=Lib.hid (⟨hk,hz,hx,hpl⟩:kindW (M.roots.getD rn 0)=0∧M.roots.getD rn 0≠0∧x∈objsAll M∧placeW (M.roots.getD rn 0)=(x.a:Int))
 have HFB:=Lib.hid (fieldsB_at (good_parts hgM).2.2.1 hrl)
 rw[Int.toNat_natCast]
 have c8:=(hH.mem.mem hI.ok).weak
 simp only[Nat.zero_add] at c8
 have hlw:((M.weak.length:Int)==5000)=false:=by simp;omega
 have hlw2:¬(M.weak.length:Int)=5000:=by omega
 have hC8:=Lib.hid c8
 obtain⟨i0,hi0,hz0,hz1,hz2⟩:=info_parts infoF0
 obtain⟨g,hg,-,-,-,-,-⟩:=own_block (OMem.fR hH.mem) (by omega)
 have hg2:=hRa
 rw[hg] at hg2
 injection hg2 with hg2
 injection hg2 with hg3 hg4
 subst hg3 hg4
 have HG:=Lib.hid hg
 have h0:errC E 0=.nilIface:=rfl
 rw[h0]
 obtain⟨u,hu⟩:∃ u,u=M.roots.getD rn 0:=⟨_,rfl⟩
 rw[←hu] at HHY hCE hub HFB ⊢
 have HU:=Lib.hid hu
 clear hH hI hE hR hc hk hz hx hpl hRa hcell c7 c8 hpt hgM hg hu
 go_enter Tryz.func70,Tryz.ntmps70
 go_upto_region 3 with (go_at_call 40;refine (root1_any _ (HH.out.ext ((Ext.refl w).alloc_ _)) HI.out.ok w.heap.size (rn:Int) hr0.1 hr0.2 (by rw[World.cell?,heap_alloc_new];rfl)).mono ?_;rintro e w1 ⟨he,hq⟩;rw[HR.out] at he;subst he;have HX1:Hid (Ext w w1):=((Ext.refl w).alloc_ _).trans_ hq;clear hq)
 have q1:=HX1.out.cell_ hQ0.out
 have q2:=HX1.out.cell_ hC7.out
 have q3:=HX1.out.cell_ hCE.out
 simp only[Nat.zero_add] at q3
 go_upto_region 6 with (go_at_call 47;refine (head_yes u hub.1 hub.2 _ (HMM.out.ext HX1.out) (HX1.out.cell_ hQ0.out) HGM.out HHY.out.1 HHY.out.2.1 x HHY.out.2.2.1 HHY.out.2.2.2).mono ?_;rintro e w3 ⟨he,hq⟩;(try unfold headV at he);subst he;have HX3:Hid (Ext w w3):=HX1.out.trans_ hq;clear hq)
 have j1':=fun o=>(HX3.out.alloc_ o).cell_ hQ0.out
 have j2':=fun o=>(HX3.out.alloc_ o).cell_ hC8.out
 go_upto_region 8 with fail
 refine named_world' (fun wD hwD=>?_)
 have HXD:Hid (Ext w wD):=by rw[hwD];exact HX3.out.alloc_ _
 have j1:=HXD.out.cell_ hQ0.out
 have j2:=HXD.out.cell_ hC8.out
 have j3:=HXD.out.cell_ hC7.out
 have j4:=HXD.out.cell_ hCE.out
 simp only[Nat.zero_add] at j4
 have HHD:=Lib.hid (HH.out.ext HXD.out)
 have HSD:Hid (HStep hb b w S wD S):=HStep.of_ext HXD.out
 have j2a:=fun o=>(Ext.alloc_ (Ext.refl wD) o).cell_ j2
 clear hwD j1' j2'
 refine wp_region_held_drew (S:=fun W=>W.cell? ⟨hb,0,none⟩=some (.pointer (some ⟨b,0,none⟩))∧W.cell? ⟨b,7,none⟩=some (.slice (some ⟨g,0,none⟩) M.roots.length S.R.2)∧W.cell? ⟨g,rn,none⟩=some (.int .u64 u)) (by kernel_rfl) ?_ (fun hHeld=>?_)
 ·exact⟨j1,j3,j4⟩
 refine tk 0 ⟨some 44,_,_,_,_,_⟩ ?_ rfl ?_ ?_
 rotate_left
 ·(intro w hSw;(try dsimp only at hSw);go_simp;try with_reducible rfl)
 try simp only[tkS]
 refine tk 1 ⟨some 45,_,_,_,_,_⟩ ?_ rfl ?_ ?_
 rotate_left
 ·(intro w hSw;(try dsimp only at hSw);go_simp;try with_reducible rfl)
 try simp only[tkS]
 refine tk 2 ⟨some 46,_,_,_,_,_⟩ ?_ rfl ?_ ?_
 rotate_left
 ·(intro w hSw;(try dsimp only at hSw);go_simp;try with_reducible rfl)
 try simp only[tkS]
 refine tk 3 ⟨some 47,_,_,_,_,_⟩ ?_ rfl ?_ ?_
 rotate_left
 ·(intro w hSw;(try dsimp only at hSw);go_simp;try with_reducible rfl)
 try simp only[tkS]
 refine tk 4 ⟨some 48,_,_,_,_,_⟩ ?_ rfl ?_ ?_
 rotate_left
 ·(intro w hSw;(try dsimp only at hSw);go_simp;try with_reducible rfl)
 try simp only[tkS]
 refine tk 5 ⟨some 49,_,_,_,_,_⟩ ?_ rfl ?_ ?_
 rotate_left
 ·(intro w hSw;(try dsimp only at hSw);go_simp;try with_reducible rfl)
 try simp only[tkS]
 refine tk 6 ⟨some 50,_,_,_,_,_⟩ ?_ rfl ?_ ?_
 rotate_left
 ·(intro w hSw;(try dsimp only at hSw);go_simp;try with_reducible rfl)
 try simp only[tkS]
 refine tk 7 ⟨some 51,_,_,_,_,_⟩ ?_ rfl ?_ ?_
 rotate_left
 ·(intro w hSw;(try dsimp only at hSw);go_simp;try with_reducible rfl)
 try simp only[tkS]
 refine tk 8 ⟨some 52,_,_,_,_,_⟩ ?_ rfl ?_ ?_
 rotate_left
 ·(intro w hSw;(try dsimp only at hSw);go_simp;try with_reducible rfl)
 try simp only[tkS]
 refine tk 9 ⟨some 53,_,_,_,_,_⟩ ?_ rfl ?_ ?_
 rotate_left
 ·(intro w hSw;(try dsimp only at hSw);go_simp;try with_reducible rfl)
 try simp only[tkS]
 refine tk 11 ⟨some 55,_,_,_,_,_⟩ ?_ rfl ?_ ?_
 rotate_left
 ·(intro w hSw;(try dsimp only at hSw);go_simp;try with_reducible rfl)
 try simp only[tkS]
 refine tk 12 ⟨some 56,_,_,_,_,_⟩ ?_ rfl ?_ ?_
 rotate_left
 ·(intro w hSw;(try dsimp only at hSw);go_simp;try with_reducible rfl)
 try simp only[tkS]
 refine tk 13 ⟨some 57,_,_,_,_,_⟩ ?_ rfl ?_ ?_
 rotate_left
 ·(intro w hSw;(try dsimp only at hSw);go_simp;try with_reducible rfl)
 try simp only[tkS]
 refine tk 14 ⟨some 58,_,_,_,_,_⟩ ?_ rfl ?_ ?_
 rotate_left
 ·(intro w hSw;(try dsimp only at hSw);go_simp;try with_reducible rfl)
 try simp only[tkS]
 refine tk 15 ⟨some 59,_,_,_,_,_⟩ ?_ rfl ?_ ?_
 rotate_left
 ·(intro w hSw;(try dsimp only at hSw);go_simp;try with_reducible rfl)
 try simp only[tkS]
 refine tk 16 ⟨some 60,_,_,_,_,_⟩ ?_ rfl ?_ ?_
 rotate_left
 ·(intro w hSw;(try dsimp only at hSw);go_simp;try with_reducible rfl)
 try simp only[tkS]
 refine tk 17 ⟨some 61,_,_,_,_,_⟩ ?_ rfl ?_ ?_
 rotate_left
 ·(intro w hSw;(try dsimp only at hSw);go_simp;try with_reducible rfl)
 try simp only[tkS]
 refine tk 18 ⟨some 62,_,_,_,_,_⟩ ?_ rfl ?_ ?_
 rotate_left
 ·(intro w hSw;(try dsimp only at hSw);go_simp;try with_reducible rfl)
 try simp only[tkS]
 refine tk 19 ⟨some 63,_,_,_,_,_⟩ ?_ rfl ?_ ?_
 rotate_left
 ·(intro w hSw;(try dsimp only at hSw);go_simp;try with_reducible rfl)
 try simp only[tkS]
 refine tk 20 ⟨some 64,_,_,_,_,_⟩ ?_ rfl ?_ ?_
 rotate_left
 ·(intro w hSw;(try dsimp only at hSw);go_simp;try with_reducible rfl)
 try simp only[tkS]
 refine wpAnyH_ready (rs:=[10,21]) (by kernel_rfl) (by simp) ?_
 refine AllReadyH.cons (o:=⟨some 54,_,_,_,_,_⟩) rfl (fun K hK=>?_) (AllReadyH.cons (o:=⟨some 65,_,_,_,_,_⟩) rfl (fun K hK=>?_) AllReadyH.nil)
 ·skip
  go_simp
  refine hK.out _ _ ?_ (fun hHeld=>?_)
  ·(try dsimp only);exact⟨Ext.cell_ (w:=wD) (by repeat (first|exact Ext.refl _|(refine Ext.drew_ ?_)|(refine Ext.drewN_ ?_ _)|(refine Ext.alloc_ ?_ _))) j1,Ext.cell_ (w:=wD) (by repeat (first|exact Ext.refl _|(refine Ext.drew_ ?_)|(refine Ext.drewN_ ?_ _)|(refine Ext.alloc_ ?_ _))) j3,Ext.cell_ (w:=wD) (by repeat (first|exact Ext.refl _|(refine Ext.drew_ ?_)|(refine Ext.drewN_ ?_ _)|(refine Ext.alloc_ ?_ _))) j4⟩
  clear hK K
  try simp only[tkS]
  refine wpAnyH_ready (rs:=[21]) (by kernel_rfl) (by simp) ?_
  refine AllReadyH.cons (o:=⟨some 65,_,_,_,_,_⟩) rfl (fun K hK=>?_) AllReadyH.nil
  go_simp
  skip
  refine hK.out _ _ ?_ (fun hHeld=>?_)
  ·(try dsimp only);exact⟨Ext.cell_ (w:=wD) (by repeat (first|exact Ext.refl _|(refine Ext.drew_ ?_)|(refine Ext.drewN_ ?_ _)|(refine Ext.alloc_ ?_ _))) j1,Ext.cell_ (w:=wD) (by repeat (first|exact Ext.refl _|(refine Ext.drew_ ?_)|(refine Ext.drewN_ ?_ _)|(refine Ext.alloc_ ?_ _))) j3,Ext.cell_ (w:=wD) (by repeat (first|exact Ext.refl _|(refine Ext.drew_ ?_)|(refine Ext.drewN_ ?_ _)|(refine Ext.alloc_ ?_ _))) j4⟩
  clear hK K
  try simp only[tkS]
  refine wpAnyH_ready (rs:=[22]) (by kernel_rfl) (by simp) ?_
  refine AllReadyH.cons (o:=⟨some 66,_,_,_,_,_⟩) rfl (fun K hK=>?_) AllReadyH.nil
  have hHD:=HHD.out.ext (Ext.alloc_ (Ext.drew_ (Ext.refl wD)) (.cells #[.int .u64 u] 78))
  refine step_append_src (by rfl) _ _ 76 (by rfl) B 78 i0 (.int .u64 0) 1 8 und0 hi0 hz0 hz1 hz2 (by rfl) (by decide) (.slice S.K.1 M.weak.length S.K.2) M.weak.length (wcells M.weak) (by rfl) (hHD.mem.fld ⟨8,78,1,S.K.1,M.weak.length,S.K.2,wcells M.weak⟩ (by simp[memFlds])).2.1 (some ⟨wD.heap.size,0,none⟩) 1 1 [.int .u64 u] (by rfl) (fun e=>by cases e) (Nat.le_refl _) (by rfl) (rslH wD.drew _ _) (by intro q hq;rw[List.mem_singleton.1 hq];rfl) (by unfold maxLen;omega) (by omega) hHD.hbs ?_
  intro a2 c2 v2 hown hgrow hat
  obtain⟨z1,z2,z3,y8,yf⟩:=hHD.pushWeak u a2 c2 hgrow hown hat
  have HZ1:=Lib.hid z1
  have HZ2:Hid (HStep hb b w S _ _):=(HSD.out.trans_ (HStep.of_ext (Ext.alloc_ (Ext.drew_ (Ext.refl wD)) (.cells #[.int .u64 u] 78)))).trans_ z2
  have y0:=z3.cell (p:=⟨hb,0,none⟩) hHD.ne hHD.ptr
  have y7:v2.cell? ⟨b,7,none⟩=some (.slice (some ⟨g,0,none⟩) M.roots.length S.R.2):=by rw[World.cell?_of_block (a:=⟨b,7,none⟩) (hgrow.block b (OM.lt hHD.mem) (fun e=>(hHD.mem.fld ⟨8,78,1,S.K.1,M.weak.length,S.K.2,wcells M.weak⟩ (by simp[memFlds])).2.2 e.symm))];exact Ext.cell_ (w:=wD) (by repeat (first|exact Ext.refl _|(refine Ext.drew_ ?_)|(refine Ext.drewN_ ?_ _)|(refine Ext.alloc_ ?_ _))) j3
  have yc:v2.cell? ⟨g,rn,none⟩=some (.int .u64 u):=by rw[World.cell?_of_block (a:=⟨g,rn,none⟩) (hgrow.block g (Nat.lt_of_lt_of_le (cell_lt j4) (by simp)) (fun e=>OMem.apartRK hHD.mem HG.out e.symm))];exact Ext.cell_ (w:=wD) (by repeat (first|exact Ext.refl _|(refine Ext.drew_ ?_)|(refine Ext.drewN_ ?_ _)|(refine Ext.alloc_ ?_ _))) j4
  have x7:=(z1.mem.fld ⟨7,78,1,S.R.1,M.roots.length,S.R.2,wcells M.roots⟩ (by simp[memFlds])).1
  have xR:=(row_rsl (OMem.fR z1.mem)).1
  simp only at xR
  rw[HG.out] at xR
  simp only[Fld.val,HG.out] at x7
  have xc:=xR.at_ (wcells_at M.roots rn hrl)
  rw[←HU.out,Nat.zero_add] at xc
  have x0:=z1.ptr
  clear hown hgrow hat z1 z2 z3 hHD xR
  refine hK.out _ _ ?_ (fun hHeld=>?_)
  ·(try dsimp only);exact⟨y0,y7,yc⟩
  clear hK K
  try simp only[tkS]
  refine tk 23 ⟨some 67,_,_,_,_,_⟩ ?_ rfl ?_ ?_
  rotate_left
  ·(intro w hSw;(try dsimp only at hSw);go_simp;try with_reducible rfl)
  try simp only[tkS]
  refine tk 24 ⟨some 68,_,_,_,_,_⟩ ?_ rfl ?_ ?_
  rotate_left
  ·(intro w hSw;(try dsimp only at hSw);go_simp;try with_reducible rfl)
  try simp only[tkS]
  refine wpAnyH_ready (rs:=[25]) (by kernel_rfl) (by simp) ?_
  refine AllReadyH.cons (o:=⟨none,_,_,_,_,_⟩) rfl (fun K hK=>?_) AllReadyH.nil
  go_simp
  skip
  refine hK.out _ _ ?_ (fun hHeld=>?_)
  ·(try dsimp only);exact⟨x0,x7,xc⟩
  clear hK K
  try simp only[tkS]
  refine wpAnyH_done (by kernel_rfl) ?_ _
  clear hHeld y0 y7 y8 yc yf
  have x8:=(HZ1.out.mem.fld ⟨8,78,1,a2,(M.weak++[u]).length,c2,wcells (M.weak++[u])⟩ (by simp[memFlds])).1
  simp only[Fld.val,List.length_append,List.length_singleton] at x8
  have xw:IntKind.i64.wrap (((M.weak.length+1:Nat):Int)-1)=(M.weak.length:Int):=by rw[IntWalk.i64_in _ (by omega)];omega
  have xw2:IntKind.i64.wrap ((M.weak.length:Int)+1-1)=(M.weak.length:Int):=by rw[IntWalk.i64_in _ (by omega)];omega
  generalize v2.setCell ⟨b,8,none⟩ (Value.slice a2 (M.weak.length+1) c2)=wE at *
  clear x7 xc
  go_wp2
  go_ret2
  exact⟨rfl,_,HZ1.out,HZ2.out⟩
 ·skip
  go_simp
  refine hK.out _ _ ?_ (fun hHeld=>?_)
  ·(try dsimp only);exact⟨Ext.cell_ (w:=wD) (by repeat (first|exact Ext.refl _|(refine Ext.drew_ ?_)|(refine Ext.drewN_ ?_ _)|(refine Ext.alloc_ ?_ _))) j1,Ext.cell_ (w:=wD) (by repeat (first|exact Ext.refl _|(refine Ext.drew_ ?_)|(refine Ext.drewN_ ?_ _)|(refine Ext.alloc_ ?_ _))) j3,Ext.cell_ (w:=wD) (by repeat (first|exact Ext.refl _|(refine Ext.drew_ ?_)|(refine Ext.drewN_ ?_ _)|(refine Ext.alloc_ ?_ _))) j4⟩
  clear hK K
  try simp only[tkS]
  refine wpAnyH_ready (rs:=[10]) (by kernel_rfl) (by simp) ?_
  refine AllReadyH.cons (o:=⟨some 54,_,_,_,_,_⟩) rfl (fun K hK=>?_) AllReadyH.nil
  go_simp
  skip
  refine hK.out _ _ ?_ (fun hHeld=>?_)
  ·(try dsimp only);exact⟨Ext.cell_ (w:=wD) (by repeat (first|exact Ext.refl _|(refine Ext.drew_ ?_)|(refine Ext.drewN_ ?_ _)|(refine Ext.alloc_ ?_ _))) j1,Ext.cell_ (w:=wD) (by repeat (first|exact Ext.refl _|(refine Ext.drew_ ?_)|(refine Ext.drewN_ ?_ _)|(refine Ext.alloc_ ?_ _))) j3,Ext.cell_ (w:=wD) (by repeat (first|exact Ext.refl _|(refine Ext.drew_ ?_)|(refine Ext.drewN_ ?_ _)|(refine Ext.alloc_ ?_ _))) j4⟩
  clear hK K
  try simp only[tkS]
  refine wpAnyH_ready (rs:=[22]) (by kernel_rfl) (by simp) ?_
  refine AllReadyH.cons (o:=⟨some 66,_,_,_,_,_⟩) rfl (fun K hK=>?_) AllReadyH.nil
  have hHD:=HHD.out.ext (Ext.alloc_ (Ext.drew_ (Ext.refl wD)) (.cells #[.int .u64 u] 78))
  refine step_append_src (by rfl) _ _ 76 (by rfl) B 78 i0 (.int .u64 0) 1 8 und0 hi0 hz0 hz1 hz2 (by rfl) (by decide) (.slice S.K.1 M.weak.length S.K.2) M.weak.length (wcells M.weak) (by rfl) (hHD.mem.fld ⟨8,78,1,S.K.1,M.weak.length,S.K.2,wcells M.weak⟩ (by simp[memFlds])).2.1 (some ⟨wD.heap.size,0,none⟩) 1 1 [.int .u64 u] (by rfl) (fun e=>by cases e) (Nat.le_refl _) (by rfl) (rslH wD.drew _ _) (by intro q hq;rw[List.mem_singleton.1 hq];rfl) (by unfold maxLen;omega) (by omega) hHD.hbs ?_
  intro a2 c2 v2 hown hgrow hat
  obtain⟨z1,z2,z3,y8,yf⟩:=hHD.pushWeak u a2 c2 hgrow hown hat
  have HZ1:=Lib.hid z1
  have HZ2:Hid (HStep hb b w S _ _):=(HSD.out.trans_ (HStep.of_ext (Ext.alloc_ (Ext.drew_ (Ext.refl wD)) (.cells #[.int .u64 u] 78)))).trans_ z2
  have y0:=z3.cell (p:=⟨hb,0,none⟩) hHD.ne hHD.ptr
  have y7:v2.cell? ⟨b,7,none⟩=some (.slice (some ⟨g,0,none⟩) M.roots.length S.R.2):=by rw[World.cell?_of_block (a:=⟨b,7,none⟩) (hgrow.block b (OM.lt hHD.mem) (fun e=>(hHD.mem.fld ⟨8,78,1,S.K.1,M.weak.length,S.K.2,wcells M.weak⟩ (by simp[memFlds])).2.2 e.symm))];exact Ext.cell_ (w:=wD) (by repeat (first|exact Ext.refl _|(refine Ext.drew_ ?_)|(refine Ext.drewN_ ?_ _)|(refine Ext.alloc_ ?_ _))) j3
  have yc:v2.cell? ⟨g,rn,none⟩=some (.int .u64 u):=by rw[World.cell?_of_block (a:=⟨g,rn,none⟩) (hgrow.block g (Nat.lt_of_lt_of_le (cell_lt j4) (by simp)) (fun e=>OMem.apartRK hHD.mem HG.out e.symm))];exact Ext.cell_ (w:=wD) (by repeat (first|exact Ext.refl _|(refine Ext.drew_ ?_)|(refine Ext.drewN_ ?_ _)|(refine Ext.alloc_ ?_ _))) j4
  have x7:=(z1.mem.fld ⟨7,78,1,S.R.1,M.roots.length,S.R.2,wcells M.roots⟩ (by simp[memFlds])).1
  have xR:=(row_rsl (OMem.fR z1.mem)).1
  simp only at xR
  rw[HG.out] at xR
  simp only[Fld.val,HG.out] at x7
  have xc:=xR.at_ (wcells_at M.roots rn hrl)
  rw[←HU.out,Nat.zero_add] at xc
  have x0:=z1.ptr
  clear hown hgrow hat z1 z2 z3 hHD xR
  refine hK.out _ _ ?_ (fun hHeld=>?_)
  ·(try dsimp only);exact⟨y0,y7,yc⟩
  clear hK K
  try simp only[tkS]
  refine tk 23 ⟨some 67,_,_,_,_,_⟩ ?_ rfl ?_ ?_
  rotate_left
  ·(intro w hSw;(try dsimp only at hSw);go_simp;try with_reducible rfl)
  try simp only[tkS]
  refine tk 24 ⟨some 68,_,_,_,_,_⟩ ?_ rfl ?_ ?_
  rotate_left
  ·(intro w hSw;(try dsimp only at hSw);go_simp;try with_reducible rfl)
  try simp only[tkS]
  refine wpAnyH_ready (rs:=[25]) (by kernel_rfl) (by simp) ?_
  refine AllReadyH.cons (o:=⟨none,_,_,_,_,_⟩) rfl (fun K hK=>?_) AllReadyH.nil
  go_simp
  skip
  refine hK.out _ _ ?_ (fun hHeld=>?_)
  ·(try dsimp only);exact⟨x0,x7,xc⟩
  clear hK K
  try simp only[tkS]
  refine wpAnyH_done (by kernel_rfl) ?_ _
  clear hHeld y0 y7 y8 yc yf
  have x8:=(HZ1.out.mem.fld ⟨8,78,1,a2,(M.weak++[u]).length,c2,wcells (M.weak++[u])⟩ (by simp[memFlds])).1
  simp only[Fld.val,List.length_append,List.length_singleton] at x8
  have xw:IntKind.i64.wrap (((M.weak.length+1:Nat):Int)-1)=(M.weak.length:Int):=by rw[IntWalk.i64_in _ (by omega)];omega
  have xw2:IntKind.i64.wrap ((M.weak.length:Int)+1-1)=(M.weak.length:Int):=by rw[IntWalk.i64_in _ (by omega)];omega
  generalize v2.setCell ⟨b,8,none⟩ (Value.slice a2 (M.weak.length+1) c2)=wE at *
  clear x7 xc
  go_wp2
  go_ret2
  exact⟨rfl,_,HZ1.out,HZ2.out⟩
end
open Go.Shelf Go.RowKit
def textRen:Ren where
 f:=fun x=>match x with
  | 129=>170
  | 166=>54
  | 169=>62
  | 171=>57
  | 173=>58
  | 212=>84
  | 240=>113
  | 243=>116
  | 246=>117
  | 263=>130
  | 264=>131
  | 276=>147
  | 283=>149
  | 284=>150
  | 285=>151
  | 286=>152
  | 317=>171
  | 318=>172
  | 319=>173
  | 320=>174
  | 337=>182
  | 338=>183
  | n=>n
 t:=fun x=>match x with
  | 0=>0
  | 2=>2
  | 3=>3
  | 4=>4
  | 5=>5
  | 9=>9
  | 20=>20
  | 37=>107
  | 46=>143
  | 51=>192
  | 53=>78
  | 70=>106
  | 72=>109
  | 75=>26
  | 76=>33
  | 80=>42
  | 109=>144
  | 127=>177
  | 146=>193
  | 148=>195
  | 164=>216
  | 171=>218
  | 173=>220
  | 212=>245
  | 213=>246
  | 232=>259
  | 233=>260
  | n=>n
 g:=fun x=>match x with
  | 17=>8
  | 18=>9
  | 19=>10
  | n=>n
theorem writeL:Lays.n166 Tryz.prog textRen:={
 mixed:=by kernel_rfl,f166:=Tryz.func54.trans (congrArg some (by kernel_rfl)),f240:=Tryz.func113.trans (congrArg some (by kernel_rfl)),
 f276:=Tryz.func147.trans (congrArg some (by kernel_rfl)),t0:=Tryz.underlying0,a0:=Tryz.isAgg0,z0:=Tryz.sizeOf0,v0:=Tryz.zeroValue0,t3:=Tryz.underlying3,
 a3:=Tryz.isAgg3,z3:=Tryz.sizeOf3,v3:=Tryz.zeroValue3,t4:=Tryz.underlying4,a4:=Tryz.isAgg4,z4:=Tryz.sizeOf4,v4:=Tryz.zeroValue4,t9:=Tryz.underlying9,
 a9:=Tryz.isAgg9,z9:=Tryz.sizeOf9,v9:=Tryz.zeroValue9,t20:=Tryz.underlying20,a20:=Tryz.isAgg20,z20:=Tryz.sizeOf20,
 v20:=Tryz.zeroValue20,t37:=Tryz.underlying107,a37:=Tryz.isAgg107,z37:=Tryz.sizeOf107,v37:=Tryz.zeroValue107,t70:=Tryz.underlying106,
 a70:=Tryz.isAgg106,z70:=Tryz.sizeOf106,v70:=Tryz.zeroValue106,t72:=Tryz.underlying109,a72:=Tryz.isAgg109,
 z72:=Tryz.sizeOf109,v72:=Tryz.zeroValue109,t75:=Tryz.underlying26,a75:=Tryz.isAgg26,z75:=Tryz.sizeOf26,v75:=Tryz.zeroValue26,
 t164:=Tryz.underlying216,a164:=Tryz.isAgg216,z164:=Tryz.sizeOf216,v164:=Tryz.zeroValue216}
theorem stringL:Lays.n169 Tryz.prog textRen:={
 mixed:=by kernel_rfl,f169:=Tryz.func62.trans (congrArg some (by kernel_rfl)),t0:=Tryz.underlying0,a0:=Tryz.isAgg0,z0:=Tryz.sizeOf0,v0:=Tryz.zeroValue0,
 t3:=Tryz.underlying3,a3:=Tryz.isAgg3,z3:=Tryz.sizeOf3,v3:=Tryz.zeroValue3,t9:=Tryz.underlying9,a9:=Tryz.isAgg9,z9:=Tryz.sizeOf9,
 v9:=Tryz.zeroValue9,t37:=Tryz.underlying107,a37:=Tryz.isAgg107,z37:=Tryz.sizeOf107,v37:=Tryz.zeroValue107,t70:=Tryz.underlying106,
 a70:=Tryz.isAgg106,z70:=Tryz.sizeOf106,v70:=Tryz.zeroValue106,t72:=Tryz.underlying109,a72:=Tryz.isAgg109,
 z72:=Tryz.sizeOf109,v72:=Tryz.zeroValue109,t127:=Tryz.underlying177,a127:=Tryz.isAgg177,z127:=Tryz.sizeOf177,v127:=Tryz.zeroValue177}
theorem mulL:Lays.n212 Tryz.prog textRen:={
 mixed:=by kernel_rfl,f212:=Tryz.func84.trans (congrArg some (by kernel_rfl)),f263:=Tryz.func130.trans (congrArg some (by kernel_rfl)),
 f264:=Tryz.func131.trans (congrArg some (by kernel_rfl)),t46:=Tryz.underlying143,a46:=Tryz.isAgg143,z46:=Tryz.sizeOf143,v46:=Tryz.zeroValue143,t51:=Tryz.underlying192,
 a51:=Tryz.isAgg192,z51:=Tryz.sizeOf192,v51:=Tryz.zeroValue192,t53:=Tryz.underlying78,a53:=Tryz.isAgg78,z53:=Tryz.sizeOf78,v53:=Tryz.zeroValue78,
 t146:=Tryz.underlying193,a146:=Tryz.isAgg193,z146:=Tryz.sizeOf193,v146:=Tryz.zeroValue193,t148:=Tryz.underlying195,
 a148:=Tryz.isAgg195,z148:=Tryz.sizeOf195,v148:=Tryz.zeroValue195}
theorem itoaL:LaysM.n171 Tryz.prog textRen:={
 mixed:=by kernel_rfl,f129:=Tryz.func170.trans (congrArg some (by kernel_rfl)),f171:=Tryz.func57.trans (congrArg some (by kernel_rfl)),
 f243:=Tryz.func116.trans (congrArg some (by kernel_rfl)),f246:=Tryz.func117.trans (congrArg some (by kernel_rfl)),
 f283:=Tryz.func149.trans (congrArg some (by kernel_rfl)),f284:=Tryz.func150.trans (congrArg some (by kernel_rfl)),
 f285:=Tryz.func151.trans (congrArg some (by kernel_rfl)),f286:=Tryz.func152.trans (congrArg some (by kernel_rfl)),
 f317:=Tryz.func171.trans (congrArg some (by kernel_rfl)),f318:=Tryz.func172.trans (congrArg some (by kernel_rfl)),
 f319:=Tryz.func173.trans (congrArg some (by kernel_rfl)),f320:=Tryz.func174.trans (congrArg some (by kernel_rfl)),
 f337:=Tryz.func182.trans (congrArg some (by kernel_rfl)),f338:=Tryz.func183.trans (congrArg some (by kernel_rfl)),t0:=Tryz.underlying0,a0:=Tryz.isAgg0,
 z0:=Tryz.sizeOf0,v0:=Tryz.zeroValue0,t2:=Tryz.underlying2,a2:=Tryz.isAgg2,z2:=Tryz.sizeOf2,v2:=Tryz.zeroValue2,t3:=Tryz.underlying3,a3:=Tryz.isAgg3,
 z3:=Tryz.sizeOf3,v3:=Tryz.zeroValue3,t4:=Tryz.underlying4,a4:=Tryz.isAgg4,z4:=Tryz.sizeOf4,v4:=Tryz.zeroValue4,t5:=Tryz.underlying5,a5:=Tryz.isAgg5,
 z5:=Tryz.sizeOf5,v5:=Tryz.zeroValue5,t9:=Tryz.underlying9,a9:=Tryz.isAgg9,z9:=Tryz.sizeOf9,v9:=Tryz.zeroValue9,t20:=Tryz.underlying20,
 a20:=Tryz.isAgg20,z20:=Tryz.sizeOf20,v20:=Tryz.zeroValue20,t37:=Tryz.underlying107,a37:=Tryz.isAgg107,z37:=Tryz.sizeOf107,
 v37:=Tryz.zeroValue107,t46:=Tryz.underlying143,a46:=Tryz.isAgg143,z46:=Tryz.sizeOf143,v46:=Tryz.zeroValue143,t51:=Tryz.underlying192,a51:=Tryz.isAgg192,
 z51:=Tryz.sizeOf192,v51:=Tryz.zeroValue192,t53:=Tryz.underlying78,a53:=Tryz.isAgg78,z53:=Tryz.sizeOf78,v53:=Tryz.zeroValue78,t171:=Tryz.underlying218,
 a171:=Tryz.isAgg218,z171:=Tryz.sizeOf218,v171:=Tryz.zeroValue218,t173:=Tryz.underlying220,a173:=Tryz.isAgg220,
 z173:=Tryz.sizeOf220,v173:=Tryz.zeroValue220,t212:=Tryz.underlying245,a212:=Tryz.isAgg245,z212:=Tryz.sizeOf245,
 v212:=Tryz.zeroValue245,t213:=Tryz.underlying246,a213:=Tryz.isAgg246,z213:=Tryz.sizeOf246,t232:=Tryz.underlying259,a232:=Tryz.isAgg259,
 z232:=Tryz.sizeOf259,v232:=Tryz.zeroValue259,t233:=Tryz.underlying260,a233:=Tryz.isAgg260,z233:=Tryz.sizeOf260,v233:=Tryz.zeroValue260,
 g17:=by kernel_rfl,g18:=by kernel_rfl,g19:=by kernel_rfl,i0:=by kernel_rfl,i2:=by kernel_rfl,i3:=by kernel_rfl,i4:=by kernel_rfl,i5:=by kernel_rfl,i9:=by kernel_rfl,i20:=by kernel_rfl,
 i37:=by kernel_rfl,i46:=by kernel_rfl,i51:=by kernel_rfl,i53:=by kernel_rfl,i171:=by kernel_rfl,i173:=by kernel_rfl,i212:=by kernel_rfl,i232:=by kernel_rfl,i233:=by kernel_rfl,m17:=by kernel_rfl,
 m18:=by kernel_rfl,m19:=by kernel_rfl}
theorem fmtL:LaysM.n173 Tryz.prog textRen:={itoaL with
 f173:=Tryz.func58.trans (congrArg some (by kernel_rfl))}
theorem builderX:Builder.Extra Tryz.prog textRen:={
 sizeBuilder:=by kernel_rfl,liesBuilder:=by kernel_rfl,t5:=Tryz.underlying5,a5:=Tryz.isAgg5,z5:=Tryz.sizeOf5,v5:=Tryz.zeroValue5,infoByte:=by kernel_rfl,
 cellsByte:=by kernel_rfl,sizeByte:=by kernel_rfl,neB5:=by decide}
def Bld (B b:Nat) (s:ByteArray) (w:World):Prop:=Lib.IsBuilderF 109 5 B b (Lib.strCells s) w
theorem strCells_app (a b:ByteArray):Lib.strCells (a++b)=Lib.strCells a++Lib.strCells b:=by
 simp[Lib.strCells_eq,Lib.byteCells]
theorem write_any (B b:Nat) (out s:ByteArray) (w:World) (h:Bld B b out w) (hl:out.size+s.size≤140737488355328) (hB:B≤w.heap.size) :
  Calls Tryz.prog 54 #[.pointer (some ⟨b,0,none⟩),.string s] w fun e w'=>e=.returned (.tuple #[.int .i64 s.size,.nilIface])∧Bld B b (out++s) w'∧Below B w w'∧Lib.OthersKept 5 (some b) w w':=by
 refine (Any.Builder_WriteString_k (ρ:=textRen) writeL builderX B b (Lib.strCells out) s w h (by rw[Lib.strCells_length];exact hl) hB).mono ?_
 rintro e w' ⟨he,h1,h2,h3⟩
 refine⟨he,?_,h2,h3⟩
 unfold Bld
 rw[strCells_app]
 exact Or.inr h1
theorem write_ex (B b:Nat) (out s:ByteArray) (w:World) (h:Bld B b out w) (hl:out.size+s.size≤140737488355328) (hB:B≤w.heap.size) :
  Calls Tryz.prog 54 #[.pointer (some ⟨b,0,none⟩),.string s] w fun e w'=>∃ z:Int,e=.returned (.tuple #[.int .i64 z,.nilIface])∧Bld B b (out++s) w'∧Below B w w'∧Lib.OthersKept 5 (some b) w w' :=
 (write_any B b out s w h hl hB).mono fun _ _ h=>⟨_,h⟩
theorem string_any (B b:Nat) (s:ByteArray) (w:World) (h:Bld B b s w) (hB:B≤w.heap.size) :
  Calls Tryz.prog 62 #[.pointer (some ⟨b,0,none⟩)] w fun e w'=>e=.returned (.string s)∧Below B w w':=by
 refine (Any.Builder_String_any_k (ρ:=textRen) stringL builderX B b s.data.toList w h hB).mono ?_
 rintro e w' ⟨he,h1,h2,h3⟩
 exact⟨he,h2⟩
theorem itoa_any (n:Int) (h0:-9223372036854775808≤n) (h1:n≤9223372036854775807) (w:World) (htab:Lib.TabIs Tryz.prog w "internal/strconv.uint64pow10" .u64 Lib.pow10Tab) :
  Calls Tryz.prog 57 #[.int .i64 n] w fun e w'=>e=.returned (.string ⟨(Lib.itoa n).toArray⟩)∧∃ k os,w'=Sort.grow (w.drewN k) os:=Any.strconv_Itoa itoaL n h0 h1 w htab
theorem fmt_any (n:Int) (h0:-9223372036854775808≤n) (h1:n≤9223372036854775807) (w:World) (htab:Lib.TabIs Tryz.prog w "internal/strconv.uint64pow10" .u64 Lib.pow10Tab) :
  Calls Tryz.prog 58 #[.int .i64 n,.int .i64 10] w fun e w'=>e=.returned (.string ⟨(Lib.itoa n).toArray⟩)∧∃ k os,w'=Sort.grow (w.drewN k) os:=Any.strconv_FormatInt_10 fmtL n h0 h1 w htab
theorem mul_any (x y:Nat) (hx:x<18446744073709551616) (hy:y<18446744073709551616) (w:World) :
  Calls Tryz.prog 84 #[.int .u64 x,.int .u64 y] w fun e w'=>e=.returned (.tuple #[.int .u64 ((x*y/18446744073709551616:Nat):Int),.int .u64 ((x*y%18446744073709551616:Nat):Int)])∧w'=w:=Any.bits_Mul mulL x y hx hy w
end Go.Proofs.YtelhoppfidibiaaGreatDoor
