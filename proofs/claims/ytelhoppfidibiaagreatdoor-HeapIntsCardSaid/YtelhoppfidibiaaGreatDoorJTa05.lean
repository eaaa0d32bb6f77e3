/- The walks of slices.IndexFunc and slices.ContainsFunc at words, whatever is asked of them. -/
import Derived.Test.YtelhoppfidibiaaGreatDoorJTa04
import Derived.Shelf.Abstract
set_option linter.unusedSimpArgs false
set_option linter.unusedVariables false
set_option maxHeartbeats 2000000
set_option maxRecDepth 100000
namespace Go.Proofs.YtelhoppfidibiaaGreatDoor
open Go.RowKit
def Says (w:World) (g:Nat) (lb:Array Value) (p:Int→Bool):Prop :=
 ∀ (W:World) (x:Int),Ext w W→0≤x→x≤18446744073709551615→Calls Tryz.prog g (#[.int .u64 x]++lb) W fun e w'=>e=.returned (.bool (p x))∧Ext w w'
def IdxPost (w:World) (p:Int→Bool) (zs:List Int) (e:Ending) (w':World):Prop :=
 ∃ n:Int,e=.returned (.int .i64 n)∧decide (0≤n)=zs.any p∧Ext w w'
theorem indexF_walk (p:Int→Bool) (g:Nat) (lb:Array Value) (eg:∀ args w,(callFunc g args).run Tryz.prog w=.ok (.enter g args) w) (a:Option Addr) (c:Nat) (zs:List Int) (w:World)
  (hz:zs.length≤9223372036854775807) (hR:RSl w a (wcells zs)) (hb:∀ x∈zs,0≤x∧x≤18446744073709551615) (hp:Says w g lb p) :
  Calls Tryz.prog 160 #[.slice a zs.length c,.func (.func g) #[] lb] w (IdxPost w p zs):=by
 have HP:=Lib.hid hp
 have HR:=Lib.hid hR
 have HB:=Lib.hid hb
 clear hp hR hb
 go_enter Tryz.func160,Tryz.ntmps160
 go_wp2
 go_loopw [5,8] (fun _ i wr=>∃ k:Nat,k≤zs.length∧i=.int .i64 (k:Int)∧Hid (Ext w wr)∧Hid (∀ j,j<k→p (zs.getD j 0)=false))
  (fun _ i _=>zs.length-(intOf i).toNat)
 case atStart=>exact⟨0,Nat.zero_le _,rfl,Ext.refl w,fun j hj=>absurd hj (Nat.not_lt_zero _)⟩
 case round =>
  obtain⟨k,hk,rfl,hE,hA⟩:=hrel
  by_cases hlt:k<zs.length
  ·obtain⟨b,off,rfl,hc⟩:=HR.out k _ (wcells_at zs k hlt)
   replace hc:=hE.out.cell_ hc
   have hin:0≤zs.getD k 0∧zs.getD k 0≤18446744073709551615:=by
    rw[List.getD_eq_getElem?_getD,List.getElem?_eq_getElem hlt]
    exact HB.out _ (List.getElem_mem hlt)
   have hcall:=HP.out wr (zs.getD k 0) hE.out hin.1 hin.2
   have hltz:(k:Int)<(zs.length:Int):=by omega
   generalize hy:zs.getD k 0=y at hc hcall hin
   have HY:=Lib.hid hy
   clear hy
   cases hq:p y with
   | true =>
    have HQ:=Lib.hid hq
    rw[hq] at hcall
    clear hq
    go_wp2
    refine hcall.mono ?_
    rintro e w' ⟨rfl,hb'⟩
    have HB':=Lib.hid hb'
    clear hb'
    go_wp2
    go_ret
    refine⟨_,rfl,?_,HB'.out⟩
    have:zs.any p=true:=List.any_eq_true.2 ⟨zs[k],List.getElem_mem hlt,by
     have:=HY.out;rw[List.getD_eq_getElem?_getD,List.getElem?_eq_getElem hlt] at this
     simp at this;rw[this];exact HQ.out⟩
    rw[this];simp
   | false =>
    have HQ:=Lib.hid hq
    rw[hq] at hcall
    clear hq
    go_wp2
    refine hcall.mono ?_
    rintro e w' ⟨rfl,hb'⟩
    have HB':=Lib.hid hb'
    clear hb'
    go_wp2
    go_roundw
    case rel=>exact⟨k+1,by omega,by go_num,HB'.out,fun j hj=>by
     by_cases e:j=k
     ·subst e;rw[HY.out];exact HQ.out
     ·exact hA.out j (by omega)⟩
    case measure=>simp[intOf];omega
  ·have hltz:¬(k:Int)<(zs.length:Int):=by omega
   go_wp2
   go_ret
   refine⟨_,rfl,?_,hE.out⟩
   have:zs.any p=false:=by
    rw[List.any_eq_false]
    intro x hx
    obtain⟨j,hj,rfl⟩:=List.mem_iff_getElem.1 hx
    have:=hA.out j (by omega)
    rw[List.getD_eq_getElem?_getD,List.getElem?_eq_getElem hj] at this
    simpa using this
   rw[this];rfl
theorem containsF_walk (p:Int→Bool) (g:Nat) (lb:Array Value) (eg:∀ args w,(callFunc g args).run Tryz.prog w=.ok (.enter g args) w) (a:Option Addr) (c:Nat) (zs:List Int) (w:World)
  (hz:zs.length≤9223372036854775807) (hR:RSl w a (wcells zs)) (hb:∀ x∈zs,0≤x∧x≤18446744073709551615) (hp:Says w g lb p) :
  Calls Tryz.prog 140 #[.slice a zs.length c,.func (.func g) #[] lb] w fun e w'=>e=.returned (.bool (zs.any p))∧Ext w w':=by
 go_enter Tryz.func140,Tryz.ntmps140
 go_wp2_with (go_at_call 160;refine (indexF_walk p g lb eg a c zs _ hz hR hb hp).mono ?_;rintro e w' ⟨n,rfl,hn,hq⟩)
 go_ret
 exact⟨rfl,hq⟩
def okHd (M:Mem) (x:Ob):Bool:=(hMark x.w==0)&&((hAge x.w==0)||!oldB M (x.a:Int))
theorem c1_enters (args:Array Value) (w:World):(callFunc 136 args).run Tryz.prog w=.ok (.enter 136 args) w :=
 enters_of Tryz.func136 (by kernel_rfl) rfl args w
theorem c31_enters (args:Array Value) (w:World):(callFunc 141 args).run Tryz.prog w=.ok (.enter 141 args) w :=
 enters_of Tryz.func141 (by kernel_rfl) rfl args w
theorem c2_any (a:Int) (h0:0≤a) (h1:a≤18446744073709551615) (bm b3:Nat) (st:List Int) (w:World) (hm:SMap w bm .i64 st) (h3:w.cell? ⟨b3,0,none⟩=some (.map (some bm))) :
  Calls Tryz.prog 137 #[.int .u64 a,.pointer (some ⟨b3,0,none⟩)] w fun e w'=>e=.returned (.bool (fldB st a))∧w'=w:=by
 go_enter Tryz.func137,Tryz.ntmps137
 go_wp2_with (go_at_call 138;refine (field_any a h0 h1 bm st _ hm).mono ?_;rintro e w' ⟨rfl,rfl⟩)
 go_ret
 exact⟨rfl,rfl⟩
theorem c31_any (a:Int) (h0:0≤a) (h1:a≤18446744073709551615) (bm b3 b4:Nat) (st:List Int) (w:World) (hm:SMap w bm .i64 st) (h3:w.cell? ⟨b3,0,none⟩=some (.map (some bm)))
  (h4:w.cell? ⟨b4,0,none⟩=some (.func (.func 137) #[] #[.pointer (some ⟨b3,0,none⟩)])) :
  Calls Tryz.prog 141 #[.int .u64 a,.pointer (some ⟨b4,0,none⟩)] w fun e w'=>e=.returned (.bool (!fldB st a))∧w'=w:=by
 go_enter Tryz.func141,Tryz.ntmps141
 go_wp2_with (go_at_call 137;refine (c2_any a h0 h1 bm b3 st _ hm h3).mono ?_;rintro e w' ⟨rfl,rfl⟩)
 go_ret
 exact⟨rfl,rfl⟩
def fieldsB (st:List Int) (zs:List Int):Bool:=zs.all (fldB st)
theorem fieldsB_any (st:List Int) (zs:List Int):(!(zs.any fun x=>!fldB st x))=fieldsB st zs:=by
 unfold fieldsB
 induction zs with
 | nil=>rfl
 | cons z zs ih=>simp only[List.any_cons,List.all_cons,←ih];cases fldB st z<;>simp
theorem c3_any (a:Option Addr) (c:Nat) (zs:List Int) (hz:zs.length≤9223372036854775807) (hb:∀ x∈zs,0≤x∧x≤18446744073709551615) (bm b3 b4:Nat) (st:List Int) (w:World)
  (hR:RSl w a (wcells zs)) (hm:SMap w bm .i64 st) (h3:w.cell? ⟨b3,0,none⟩=some (.map (some bm)))
  (h4:w.cell? ⟨b4,0,none⟩=some (.func (.func 137) #[] #[.pointer (some ⟨b3,0,none⟩)])) :
  Calls Tryz.prog 139 #[.slice a zs.length c,.pointer (some ⟨b4,0,none⟩)] w fun e w'=>e=.returned (.bool (fieldsB st zs))∧Ext w w':=by
 have hp:Says w 141 #[.pointer (some ⟨b4,0,none⟩)] (fun x=>!fldB st x):=fun W x hE q0 q1 =>
  (c31_any x q0 q1 bm b3 b4 st W (hm.ext hE) (hE.cell_ h3) (hE.cell_ h4)).mono fun e w' ⟨he,hw⟩=>⟨he,by rw[hw];exact hE⟩
 have HP:=Lib.hid hp
 have HB:=Lib.hid hb
 have HR:=Lib.hid hR
 rw[←fieldsB_any]
 clear hp hm h3 h4 hb hR
 go_enter Tryz.func139,Tryz.ntmps139
 go_wp2_with (go_at_call 140;refine (containsF_walk _ _ _ c31_enters a c zs _ hz HR.out HB.out HP.out).mono ?_;rintro e w' ⟨rfl,hq⟩)
 go_ret
 exact⟨rfl,hq⟩
theorem c1_any (x:Ob) (b o bm b3 b1:Nat) (M:Mem) (S:Sls) (hs:Shp M) (st:List Int) (w0 w:World) (hE:Ext w0 w) (hM:RMem w0 b o M S) (hm:SMap w bm .i64 st) (hbm:w0.heap.size≤bm)
  (hne3:b3≠bm) (hne1:b1≠bm) (h3:w.cell? ⟨b3,0,none⟩=some (.map (some bm))) (h1:w.cell? ⟨b1,0,none⟩=some (.pointer (some ⟨b,o,none⟩))) :
  Calls Tryz.prog 136 #[.int .i64 (x.a:Int),headV x.w,.pointer (some ⟨b3,0,none⟩),.pointer (some ⟨b1,0,none⟩)] w fun e w' =>
   e=.returned (.bool (okHd M x))∧SMap w' bm .i64 (st++[(x.a:Int)])∧Keep (·=bm) w w':=by
 have hlt3:=cell_lt h3
 have hlt1:=cell_lt h1
 have hltm:=hm.lt
 simp only at hlt3 hlt1
 obtain⟨w1,hrun,hm2,hbut⟩:=smap_put (hm.ext ((Ext.refl w).alloc_ (.cells #[.int .i64 (hKind x.w),.int .i64 (hAge x.w),.int .i64 (hMark x.w),.int .i64 (hSize x.w)] 92))) (x.a:Int)
 have hk1:=Keep.of_but hbut
 have q1:w1.cell? ⟨w.heap.size,1,none⟩=some (.int .i64 (hAge x.w)):=hk1.cell (by simp;omega) (by simp[go_sem])
 have q2:w1.cell? ⟨w.heap.size,2,none⟩=some (.int .i64 (hMark x.w)):=hk1.cell (by simp;omega) (by simp[go_sem])
 have q3:w1.cell? ⟨b1,0,none⟩=some (.pointer (some ⟨b,o,none⟩)):=hk1.cell hne1 (((Ext.refl w).alloc_ _).cell_ h1)
 have hkk:Keep (·=bm) w w1:=((Keep.refl _ w).alloc_ _).trans hk1
 have hM1:RMem w1 b o M S:=hM.ext (Ext.keep hE hkk fun i hi=>by omega)
 have HM2:=Lib.hid hm2
 have HK:=Lib.hid hkk
 have HM1:=Lib.hid hM1
 clear hm hm2 hbut hk1 hkk hM1 hM hE
 unfold headV
 cases m0:(hMark x.w==0) with
 | false =>
  have e:okHd M x=false:=by simp[okHd,m0]
  rw[e]
  go_enter Tryz.func136,Tryz.ntmps136
  go_wp2
  go_ret
  exact⟨rfl,HM2.out,HK.out⟩
 | true =>
  cases a0:(hAge x.w==0) with
  | true =>
   have e:okHd M x=true:=by simp[okHd,m0,a0]
   rw[e]
   go_enter Tryz.func136,Tryz.ntmps136
   go_wp2
   go_ret
   exact⟨rfl,HM2.out,HK.out⟩
  | false =>
   have e:okHd M x=!oldB M (x.a:Int):=by simp[okHd,m0,a0]
   rw[e]
   go_enter Tryz.func136,Tryz.ntmps136
   go_wp2_with (go_at_call 101;refine (inOld_any _ _ b o M S HM1.out hs).mono ?_;rintro e w' ⟨rfl,rfl⟩)
   go_ret
   exact⟨rfl,HM2.out,HK.out⟩
def partN (M:Mem):List Ob × Bool:=part M.W M.base (M.base+M.top.toNat)
def partO (M:Mem):List Ob × Bool:=part M.W (2*M.half).toNat ((2*M.half).toNat+M.oldTop.toNat)
def objsAll (M:Mem):List Ob:=(partN M).1++(partO M).1
def objsB (M:Mem) (see:Ob→Bool):Bool:=((partN M).2&&(partN M).1.all see)&&((partO M).2&&(partO M).1.all see)
def startsM (M:Mem):List Int:=(objsAll M).map fun o=>(o.a:Int)
def ObM (M:Mem) (x:Ob):Prop:=ObIn M.W M.base (M.base+M.top.toNat) x∨ObIn M.W (2*M.half).toNat ((2*M.half).toNat+M.oldTop.toNat) x
theorem obM_of {M:Mem} {x:Ob} (h:x∈objsAll M):ObM M x:=by
 unfold objsAll at h
 rcases List.mem_append.1 h with h|h
 ·exact Or.inl (part_in h)
 ·exact Or.inr (part_in h)
def flds (M:Mem) (x:Ob):List Int:=(List.range x.n).map fun i=>wat M.W (x.a+1+i)
def okFld (M:Mem) (st:List Int) (x:Ob):Bool:=rawB (hKind x.w)||fieldsB st (flds M x)
def crd (M:Mem) (x:Ob) (i:Nat):Bool:=!((oldB M (x.a:Int)&&youngB M (wat M.W (x.a+1+i)))&&!cardB M ((x.a:Int)+1+i))
def cardsK (M:Mem) (x:Ob) (k:Nat):Bool:=(List.range k).all (crd M x)
def cardsO (M:Mem) (x:Ob):Bool:=rawB (hKind x.w)||cardsK M x x.n
theorem cardsK_succ (M:Mem) (x:Ob) (k:Nat):cardsK M x (k+1)=(cardsK M x k&&crd M x k):=by
 simp[cardsK,List.range_succ]
def idOK (st:List Int) (pre:List (Int × Int)) (x:Int × Int):Bool :=
 !(((((kindW x.1 != 0)||(x.1==0))||!fldB st x.1)||decide (x.2<1))||inSt (pre.map (·.1)) x.1)&&!inSt (pre.map (·.2)) x.2
def idsB (st:List Int):List (Int × Int)→List (Int × Int)→Bool
 | _,[]=>true
 | pre,x::l=>idOK st pre x&&idsB st (pre++[x]) l
def goodB (M:Mem):Bool :=
 shapeB M&&objsB M (okHd M)&&fieldsB (startsM M) M.roots&&fieldsB (startsM M) M.weak&&(objsAll M).all (okFld M (startsM M))&&idsB (startsM M) [] M.ids
def cardsM (M:Mem):Bool:=(objsAll M).all (cardsO M)
def chk (M:Mem):Int:=if goodB M then (if cardsM M then 0 else 5) else 3
theorem objsB_all {M:Mem} {p q:Ob→Bool} (h:objsB M p=true):objsB M q=(objsAll M).all q:=by
 simp only[objsB,Bool.and_eq_true] at h
 obtain⟨⟨h1,_⟩,h2,_⟩:=h
 simp[objsB,objsAll,h1,h2,List.all_append]
def ptsW (a:Int):Int:=if kindW a=0∧a≠0∧a/4≤1099511627776 then placeW a else -1
def objAt (l:List Ob) (p:Int):Int:=((l.findIdx? fun o=>(o.a:Int)==p).map fun i=>(i:Int)).getD (-1)
def ats (l:List Ob):List Int:=l.map fun o=>(o.a:Int)
end Go.Proofs.YtelhoppfidibiaaGreatDoor
