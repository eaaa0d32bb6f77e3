/- The walks of slices.IndexFunc and slices.ContainsFunc at ints, whatever is asked of them. -/
import Derived.Test.YtelhoppfidibiaaGreatDoorJTa05
import Derived.Test.YtelhoppfidibiaaGreatDoorJTa27
import Derived.Test.YtelhoppfidibiaaGreatDoorJTa03
import Derived.Test.YtelhoppfidibiaaGreatDoorJTa31
import Derived.Test.YtelhoppfidibiaaGreatDoorJTa02
set_option linter.unusedSimpArgs false
set_option linter.unusedVariables false
set_option maxHeartbeats 4000000
set_option maxRecDepth 100000
namespace Go.Proofs.YtelhoppfidibiaaGreatDoor
open Go.RowKit
def ncells (l:List Int):List Value:=l.map fun x=>Value.int .i64 x
theorem ncells_at (l:List Int) (j:Nat) (h:j<l.length):(ncells l)[j]?=some (.int .i64 (l.getD j 0)):=by
 simp[ncells,h,List.getD_eq_getElem?_getD]
def SaysI (w:World) (g:Nat) (lb:Array Value) (p:Int→Bool):Prop :=
 ∀ (W:World) (x:Int),Ext w W→-9223372036854775808≤x→x≤9223372036854775807→Calls Tryz.prog g (#[.int .i64 x]++lb) W fun e w'=>e=.returned (.bool (p x))∧Ext w w'
def IdxPostI (w:World) (p:Int→Bool) (zs:List Int) (e:Ending) (w':World):Prop :=
 ∃ n:Int,e=.returned (.int .i64 n)∧decide (0≤n)=zs.any p∧Ext w w'
theorem indexFI_walk (p:Int→Bool) (g:Nat) (lb:Array Value) (eg:∀ args w,(callFunc g args).run Tryz.prog w=.ok (.enter g args) w) (a:Option Addr) (c:Nat) (zs:List Int) (w:World)
  (hz:zs.length≤9223372036854775807) (hR:RSl w a (ncells zs)) (hb:∀ x∈zs,-9223372036854775808≤x∧x≤9223372036854775807) (hp:SaysI w g lb p) :
  Calls Tryz.prog 132 #[.slice a zs.length c,.func (.func g) #[] lb] w (IdxPostI w p zs):=by
 have HP:=Lib.hid hp
 have HR:=Lib.hid hR
 have HB:=Lib.hid hb
 clear hp hR hb
 go_enter Tryz.func132,Tryz.ntmps132
 go_wp2
 go_loopw [5,8] (fun _ i wr=>∃ k:Nat,k≤zs.length∧i=.int .i64 (k:Int)∧Hid (Ext w wr)∧Hid (∀ j,j<k→p (zs.getD j 0)=false))
  (fun _ i _=>zs.length-(intOf i).toNat)
 case atStart=>exact⟨0,Nat.zero_le _,rfl,Ext.refl w,fun j hj=>absurd hj (Nat.not_lt_zero _)⟩
 case round =>
  obtain⟨k,hk,rfl,hE,hA⟩:=hrel
  by_cases hlt:k<zs.length
  ·obtain⟨b,off,rfl,hc⟩:=HR.out k _ (ncells_at zs k hlt)
   replace hc:=hE.out.cell_ hc
   have hin:-9223372036854775808≤zs.getD k 0∧zs.getD k 0≤9223372036854775807:=by
    rw[List.getD_eq_getElem?_getD,List.getElem?_eq_getElem hlt]
    exact HB.out _ (List.getElem_mem hlt)
   have hcall:=HP.out wr (zs.getD k 0) hE.out hin.1 hin.2
   have hltz:(k:Int)<(zs.length:Int):=by omega
   generalize hy:zs.getD k 0=y at hc hcall hin
   have HY:=Lib.hid hy
   clear hy
   cases hq:p y with
   | true =>
    have HQ:=Lib.hid hq
    rw[hq] at hcall
    clear hq
    go_wp2
    refine hcall.mono ?_
    rintro e w' ⟨rfl,hb'⟩
    have HB':=Lib.hid hb'
    clear hb'
    go_wp2
    go_ret
    refine⟨_,rfl,?_,HB'.out⟩
    have:zs.any p=true:=List.any_eq_true.2 ⟨zs[k],List.getElem_mem hlt,by
     have:=HY.out;rw[List.getD_eq_getElem?_getD,List.getElem?_eq_getElem hlt] at this
     simp at this;rw[this];exact HQ.out⟩
    rw[this];simp
   | false =>
    have HQ:=Lib.hid hq
    rw[hq] at hcall
    clear hq
    go_wp2
    refine hcall.mono ?_
    rintro e w' ⟨rfl,hb'⟩
    have HB':=Lib.hid hb'
    clear hb'
    go_wp2
    go_roundw
    case rel=>exact⟨k+1,by omega,by go_num,HB'.out,fun j hj=>by
     by_cases e:j=k
     ·subst e;rw[HY.out];exact HQ.out
     ·exact hA.out j (by omega)⟩
    case measure=>simp[intOf];omega
  ·have hltz:¬(k:Int)<(zs.length:Int):=by omega
   go_wp2
   go_ret
   refine⟨_,rfl,?_,hE.out⟩
   have:zs.any p=false:=by
    rw[List.any_eq_false]
    intro x hx
    obtain⟨j,hj,rfl⟩:=List.mem_iff_getElem.1 hx
    have:=hA.out j (by omega)
    rw[List.getD_eq_getElem?_getD,List.getElem?_eq_getElem hj] at this
    simpa using this
   rw[this];rfl
theorem containsFI_walk (p:Int→Bool) (g:Nat) (lb:Array Value) (eg:∀ args w,(callFunc g args).run Tryz.prog w=.ok (.enter g args) w) (a:Option Addr) (c:Nat) (zs:List Int) (w:World)
  (hz:zs.length≤9223372036854775807) (hR:RSl w a (ncells zs)) (hb:∀ x∈zs,-9223372036854775808≤x∧x≤9223372036854775807) (hp:SaysI w g lb p) :
  Calls Tryz.prog 85 #[.slice a zs.length c,.func (.func g) #[] lb] w fun e w'=>e=.returned (.bool (zs.any p))∧Ext w w':=by
 go_enter Tryz.func85,Tryz.ntmps85
 go_wp2_with (go_at_call 132;refine (indexFI_walk p g lb eg a c zs _ hz hR hb hp).mono ?_;rintro e w' ⟨n,rfl,hn,hq⟩)
 go_ret
 exact⟨rfl,hq⟩
def noR (n:Nat) (r:Int):Bool:=decide (r<0)||decide ((n:Int)≤r)
theorem rootC_enters (args:Array Value) (w:World):(callFunc 86 args).run Tryz.prog w=.ok (.enter 86 args) w:=by kernel_rfl
theorem rootC_walk (W:World) (rb hb b:Nat) (ra:Option Addr) (n rc:Nat) (h0:W.cell? ⟨rb,0,none⟩=some (.pointer (some ⟨hb,0,none⟩))) (h1:W.cell? ⟨hb,0,none⟩=some (.pointer (some ⟨b,0,none⟩))) (h2:W.cell? ⟨b,7,none⟩=some (.slice ra n rc)) (x:Int) :
  Calls Tryz.prog 86 #[.int .i64 x,.pointer (some ⟨rb,0,none⟩)] W fun e w'=>e=.returned (.bool (noR n x))∧w'=W:=by
 unfold noR
 by_cases hx:x<0
 ·rw[decide_eq_true hx,Bool.true_or]
  go_enter Tryz.func86,Tryz.ntmps86
  go_wp2
  go_ret
  exact⟨rfl,rfl⟩
 ·rw[decide_eq_false hx,Bool.false_or]
  go_enter Tryz.func86,Tryz.ntmps86
  go_wp2
  go_ret
  exact⟨rfl,rfl⟩
theorem root_says (w:World) (hb b:Nat) (ra:Option Addr) (n rc:Nat) (t:TypeId) (h1:w.cell? ⟨hb,0,none⟩=some (.pointer (some ⟨b,0,none⟩))) (h2:w.cell? ⟨b,7,none⟩=some (.slice ra n rc)) :
  SaysI (w.alloc (.cells #[.pointer (some ⟨hb,0,none⟩)] t)) 86 #[.pointer (some ⟨w.heap.size,0,none⟩)] (noR n):=by
 intro W x hX x0 x1
 show Calls _ _ #[.int .i64 x,.pointer (some ⟨w.heap.size,0,none⟩)] W _
 have hx:=((Ext.refl w).alloc_ (.cells #[.pointer (some ⟨hb,0,none⟩)] t)).trans_ hX
 refine (rootC_walk W w.heap.size hb b ra n rc (hX.cell_ (p:=⟨w.heap.size,0,none⟩) (by rw[World.cell?,heap_alloc_new];rfl)) (hx.cell_ h1) (hx.cell_ h2) x).mono ?_
 rintro e w' ⟨rfl,rfl⟩
 exact⟨rfl,hX⟩
theorem root_walk (w:World) (hb b:Nat) (ra:Option Addr) (n rc:Nat) (h1:w.cell? ⟨hb,0,none⟩=some (.pointer (some ⟨b,0,none⟩))) (h2:w.cell? ⟨b,7,none⟩=some (.slice ra n rc)) (la:Option Addr) (lc:Nat) (l:List Int) (hz:l.length≤9223372036854775807)
  (hR:RSl w la (ncells l)) (hl:∀ x∈l,-9223372036854775808≤x∧x≤9223372036854775807) :
  Calls Tryz.prog 40 #[.pointer (some ⟨hb,0,none⟩),.slice la l.length lc] w fun e w'=>e=.returned (.bool (!l.any (noR n)))∧Ext w w':=by
 have HC:=Lib.hid (containsFI_walk (noR n) 86 #[.pointer (some ⟨w.heap.size,0,none⟩)] rootC_enters la lc l (w.alloc (.cells #[.pointer (some ⟨hb,0,none⟩)] 24)) hz (hR.ext ((Ext.refl _).alloc_ _)) hl (root_says w hb b ra n rc _ h1 h2))
 clear hR hl h1 h2 hz
 generalize hB:l.any (noR n)=B at *
 go_enter Tryz.func40,Tryz.ntmps40
 go_wp2_with (go_at_call 85;refine HC.out.mono ?_;rintro e w1 ⟨rfl,hq⟩;have HX:Hid (Ext w w1):=((Ext.refl w).alloc_ _).trans_ hq;clear hq)
 go_ret
 exact⟨rfl,HX.out⟩
def rootM (M:Mem) (r:Nat) (x:Int):Mem:={M with roots:=M.roots.set r x}
section
variable {B hb b:Nat} {M:Mem} {S:Sls} {E:Nat→Addr} {ten nx:Int}
theorem set_no (a:Addr) (r x:Int) (w:World) :
  Calls Tryz.prog 42 #[.pointer (some ⟨hb,0,none⟩),.int .i64 r,.int .u64 x,errV a] w fun e w'=>e=.returned (errV a)∧w'=w:=by
 go_enter Tryz.func42,Tryz.ntmps42
 go_wp2
 go_ret
 exact⟨rfl,rfl⟩
theorem set_yes (w:World) (hH:OHeap w B hb b M S ten nx) (hok:M.Ok) (r:Nat) (hr:r<M.roots.length) (x:Int) :
  Calls Tryz.prog 42 #[.pointer (some ⟨hb,0,none⟩),.int .i64 (r:Int),.int .u64 x,.nilIface] w (HPost w B hb b S ten (rootM M r x) nx .nilIface):=by
 obtain⟨g,hg,hgB,hgl,hgf,hgc,-⟩:=own_block hH.mem.fR (by omega)
 have hM:=hH.mem.mem hok
 have q0:=hH.ptr
 have c7:=hM.roots
 simp only[Nat.zero_add] at c7
 rw[hg] at c7
 have hcell:w.cell? ⟨g,r,none⟩=some (.int .u64 (M.roots.getD r 0)):=by
  have:=hM.rR
  rw[hg] at this
  simpa using this.at_ (wcells_at M.roots r hr)
 have hfg:=hgf r
 have hwl:=hok.lenR
 have hltz:(r:Int)<(M.roots.length:Int):=by omega
 have HH:=Lib.hid hH
 have HG:=Lib.hid hg
 have HR:=Lib.hid hr
 clear hH hM hg hgf hr
 go_enter Tryz.func42,Tryz.ntmps42
 go_wp2
 go_ret
 obtain⟨g1,g2⟩:=HH.out.step (OMem.setR HH.out.mem HG.out r HR.out x) (Keep.set_ (L:=OwnA b S) (Keep.refl _ w) (p:=⟨g,r,none⟩) (Or.inl (Or.inr (Or.inr (Or.inl HG.out)))) _) (fun _ q=>Or.inl q)
 exact⟨rfl,S,g1,g2⟩
end
def rootB (M:Mem) (r:Int):Bool:=!noR M.roots.length r
theorem rootB_true {M:Mem} {r:Int}:rootB M r=true↔0≤r∧r<(M.roots.length:Int):=by
 unfold rootB noR;simp
def putR (N:Mem) (c:Int) (r:Nat) (x:Int):Mem:=if c=0 then rootM N r x else N
def numV (M:Mem) (ten v:Int):Int:=if smallB v then intW v else if objC M ten 1=0 then addrW (objPl M ten 1) else 0
def numC (M:Mem) (ten v:Int):Int:=if smallB v then 0 else objC M ten 1
def bigM (N:Mem) (a:Nat) (v:Int):Mem:={N with W:=N.W.set (a+1) (IntKind.u64.wrap v)}
def numM (M:Mem) (ten v:Int):Mem:=if smallB v then M else if objC M ten 1=0 then bigM (objM M ten 1 1) (objPl M ten 1).toNat v else objM M ten 1 1
section
variable {B hb b:Nat} {M:Mem} {S:Sls} {E:Nat→Addr} {ten nx:Int}
theorem set_any (w:World) (hH:OHeap w B hb b M S ten nx) (hok:M.Ok) (c:Int) (r:Nat) (hr:r<M.roots.length) (x:Int) :
  Calls Tryz.prog 42 #[.pointer (some ⟨hb,0,none⟩),.int .i64 (r:Int),.int .u64 x,errC E c] w (HPost w B hb b S ten (putR M c r x) nx (errC E c)):=by
 by_cases hc:c=0
 ·have e1:errC E c=.nilIface:=by rw[hc];rfl
  have e2:putR M c r x=rootM M r x:=if_pos hc
  rw[e1,e2]
  exact set_yes w hH hok r hr x
 ·have e2:putR M c r x=M:=if_neg hc
  rw[errC_pos E c hc,e2]
  refine (set_no _ (r:Int) x w).mono ?_
  rintro e w' ⟨rfl,rfl⟩
  exact⟨rfl,S,hH,HStep.of_ext (Ext.refl _)⟩
theorem root1_any (w:World) (hH:OHeap w B hb b M S ten nx) (hok:M.Ok) (lb:Nat) (r:Int) (h0:-9223372036854775808≤r) (h1:r≤9223372036854775807) (hc:w.cell? ⟨lb,0,none⟩=some (.int .i64 r)) :
  Calls Tryz.prog 40 #[.pointer (some ⟨hb,0,none⟩),.slice (some ⟨lb,0,none⟩) 1 1] w fun e w'=>e=.returned (.bool (rootB M r))∧Ext w w':=by
 have hM:=hH.mem.mem hok
 have c7:=hM.roots
 simp only[Nat.zero_add] at c7
 have:=root_walk w hb b S.R.1 M.roots.length S.R.2 hH.ptr c7 (some ⟨lb,0,none⟩) 1 [r] (by simp) (fun j u hj=>by
  obtain rfl:j=0:=by
   rcases Nat.eq_zero_or_pos j with q|q
   ·exact q
   ·rw[List.getElem?_eq_none (by simp[ncells];omega)] at hj;cases hj
  simp[ncells] at hj;subst hj
  exact⟨lb,0,rfl,hc⟩) (by intro x hx;rw[List.mem_singleton.1 hx];exact⟨h0,h1⟩)
 simpa [rootB] using this
theorem root2_any (w:World) (hH:OHeap w B hb b M S ten nx) (hok:M.Ok) (lb:Nat) (r s:Int) (h0:-9223372036854775808≤r∧r≤9223372036854775807) (h1:-9223372036854775808≤s∧s≤9223372036854775807) (hc:w.cell? ⟨lb,0,none⟩=some (.int .i64 r)) (hd:w.cell? ⟨lb,1,none⟩=some (.int .i64 s)) :
  Calls Tryz.prog 40 #[.pointer (some ⟨hb,0,none⟩),.slice (some ⟨lb,0,none⟩) 2 2] w fun e w'=>e=.returned (.bool (rootB M r&&rootB M s))∧Ext w w':=by
 have hM:=hH.mem.mem hok
 have c7:=hM.roots
 simp only[Nat.zero_add] at c7
 have:=root_walk w hb b S.R.1 M.roots.length S.R.2 hH.ptr c7 (some ⟨lb,0,none⟩) 2 [r,s] (by simp) (fun j u hj=>by
  rcases Nat.lt_or_ge j 2 with q|q
  ·have q2:j=0∨j=1:=by omega
   rcases q2 with rfl|rfl
   ·simp[ncells] at hj;subst hj
    exact⟨lb,0,rfl,hc⟩
   ·simp[ncells] at hj;subst hj
    exact⟨lb,0,rfl,hd⟩
  ·rw[List.getElem?_eq_none (by simp[ncells];omega)] at hj;cases hj) (by
  intro x hx
  rcases List.mem_cons.1 hx with rfl|hx
  ·exact h0
  ·rw[List.mem_singleton.1 hx];exact h1)
 simpa [rootB] using this
theorem isSmallB_any (v:Int) (w:World):Calls Tryz.prog 108 #[.int .i64 v] w fun e w'=>e=.returned (.bool (smallB v))∧Ext w w':=by
 refine (isSmall_any v w).mono ?_
 rintro e w9 ⟨rfl,rfl⟩
 exact⟨rfl,Ext.refl _⟩
theorem object1_walk (w:World) (hH:OHeap w B hb b M S ten nx) (hI:HInv M nx) (hE:G4 E w) (ht:0≤ten∧ten≤15) (hB:GB B) :
  Calls Tryz.prog 41 #[.pointer (some ⟨hb,0,none⟩),.int .i64 1,.int .i64 1] w (OPost w B hb b M S E ten nx 1 1):=object_walk 1 1 w hH hI hE ht hB (by omega) (by omega)
theorem number_walk (w:World) (hH:OHeap w B hb b M S ten nx) (hI:HInv M nx) (hE:G4 E w) (ht:0≤ten∧ten≤15) (hB:GB B) (v:Int) :
  Calls Tryz.prog 49 #[.pointer (some ⟨hb,0,none⟩),.int .i64 v] w (HPost w B hb b S ten (numM M ten v) nx (.tuple #[.int .u64 (numV M ten v),errC E (numC M ten v)])):=by
 have HH:=Lib.hid hH
 have HI:=Lib.hid hI
 have HE:=Lib.hid hE
 have HB:=Lib.hid hB
 obtain⟨i1,i2,i3⟩:=objM_inv (sz:=1) ht hI 1 (by omega) (by omega)
 have I1:=Lib.hid i1
 have I3:=Lib.hid i3
 clear hH hI hE hB i1 i2 i3
 cases hs:smallB v with
 | true =>
  have e1:numM M ten v=M:=by unfold numM;rw[hs];rfl
  have e2:numV M ten v=intW v:=by unfold numV;rw[hs];rfl
  have e3:errC E (numC M ten v)=.nilIface:=by unfold numC;rw[hs];rfl
  rw[e1,e2,e3]
  have HSM:=Lib.hid hs
  clear hs e1 e2 e3
  go_enter Tryz.func49,Tryz.ntmps49
  go_wp2_with (first
   | (go_at_call 108;refine (isSmallB_any v _).mono ?_;rintro e w1 ⟨he,hq⟩;rw[HSM.out] at he;subst he;have HX1:=Lib.hid hq;clear hq)
   | (go_at_call 109;refine (int_any v _).mono ?_;rintro e w9 ⟨rfl,hw9⟩;have hw9:=hw9.symm;subst hw9))
  go_ret2
  exact⟨rfl,S,HH.out.ext HX1.out,HStep.of_ext HX1.out⟩
 | false =>
  by_cases hc:objC M ten 1=0
  ·obtain⟨a,ha,hN⟩:=I3.out hc
   have e1:numM M ten v=bigM (objM M ten 1 1) a v:=by unfold numM;rw[hs];simp only[Bool.false_eq_true,if_false,if_pos hc];rw[ha];rfl
   have e2:numV M ten v=addrW (a:Int):=by unfold numV;rw[hs];simp only[Bool.false_eq_true,if_false,if_pos hc];rw[ha]
   have e3:errC E (numC M ten v)=.nilIface:=by unfold numC;rw[hs];simp only[Bool.false_eq_true,if_false];rw[hc];rfl
   rw[e1,e2,e3]
   have hlen:=hN.len
   have hla:=len_small (good_parts (chk_zero I1.out.chk).1).1
   have f1:IntKind.i64.wrap ((a:Int)+1)=((a+1:Nat):Int):=by rw[IntWalk.i64_in _ (by omega)];omega
   have HSM:=Lib.hid hs
   have HC0:Hid (errC E (objC M ten 1)=.nilIface):=by rw[Hid,hc];rfl
   have HPL:=Lib.hid ha
   obtain⟨N,hN2⟩:∃ N,N=objM M ten 1 1:=⟨_,rfl⟩
   rw[←hN2] at hlen hla ⊢
   have HN2:=Lib.hid hN2
   clear hs e1 e2 e3 hN ha hc hN2
   go_enter Tryz.func49,Tryz.ntmps49
   go_upto_region 6 with (first
    | (go_at_call 108;refine (isSmallB_any v _).mono ?_;rintro e w1 ⟨he,hq⟩;rw[HSM.out] at he;subst he;have HX1:=Lib.hid hq;clear hq)
    | (go_at_call 41;refine (object1_walk w1 (HH.out.ext HX1.out) HI.out (HE.out.ext HX1.out) ht HB.out).mono ?_;rintro e w2 ⟨he,S2,h1,h2⟩;rw[HC0.out,HPL.out] at he;subst he;rw[←HN2.out] at h1;have HH2:=Lib.hid h1;have HS2:Hid (HStep hb b w S w2 S2):=(HStep.of_ext HX1.out).trans_ h2;clear h1 h2))
   have q0:=HH2.out.ptr
   obtain⟨g,hg,-,-,hgf,-,-⟩:=own_block (OMem.fW HH2.out.mem) (by omega)
   have hfg:=hgf (a+1)
   have c3:=(HH2.out.mem.fld ⟨3,78,1,S2.W.1,N.W.length,S2.W.2,wcells N.W⟩ (by simp[memFlds])).1
   have hcell:=((row_rsl (OMem.fW HH2.out.mem)).1)
   rw[hg] at hcell
   replace hcell:=hcell.at_ (wcells_at N.W (a+1) (by omega))
   simp only[Nat.zero_add] at hcell
   simp only[Fld.val,hg] at c3
   have hjl:a+1<N.W.length:=by omega
   obtain⟨z1,z2⟩:=HH2.out.setW hg (a+1) hjl (IntKind.u64.wrap v)
   have HZ1:=Lib.hid z1
   have HZ2:=Lib.hid (HS2.out.trans_ z2)
   generalize N.W.getD (a+1) 0=xx at *
   clear z1 z2 hgf hg
   go_wp2_with (go_at_call 43;refine (addr_any _ _).mono ?_;rintro e w9 ⟨rfl,hw9⟩;have hw9:=hw9.symm;subst hw9)
   go_ret2
   exact⟨rfl,S2,HZ1.out,HZ2.out⟩
  ·have e1:numM M ten v=objM M ten 1 1:=by unfold numM;rw[hs];simp only[Bool.false_eq_true,if_false,if_neg hc]
   have e2:numV M ten v=0:=by unfold numV;rw[hs];simp only[Bool.false_eq_true,if_false,if_neg hc]
   obtain⟨ea,hv⟩:∃ ea,Hid (errC E (objC M ten 1)=errV ea):=⟨_,errC_pos E _ hc⟩
   have e3:errC E (numC M ten v)=errV ea:=by unfold numC;rw[hs];exact hv.out
   rw[e1,e2,e3]
   have HSM:=Lib.hid hs
   clear hs e1 e2 e3 hc
   go_enter Tryz.func49,Tryz.ntmps49
   go_wp2_with (first
    | (go_at_call 108;refine (isSmallB_any v _).mono ?_;rintro e w1 ⟨he,hq⟩;rw[HSM.out] at he;subst he;have HX1:=Lib.hid hq;clear hq)
    | (go_at_call 41;refine (object1_walk w1 (HH.out.ext HX1.out) HI.out (HE.out.ext HX1.out) ht HB.out).mono ?_;rintro e w2 ⟨he,S2,h1,h2⟩;rw[hv.out] at he;subst he;have HH2:=Lib.hid h1;have HS2:Hid (HStep hb b w S w2 S2):=(HStep.of_ext HX1.out).trans_ h2;clear h1 h2))
   go_ret2
   exact⟨rfl,S2,HH2.out,HS2.out⟩
theorem numM_inv {v:Int} (ht:0≤ten∧ten≤15) (hI:HInv M nx):HInv (numM M ten v) nx∧SameH M (numM M ten v):=by
 unfold numM
 split
 ·exact⟨hI,SameH.refl M⟩
 ·obtain⟨i1,i2,i3⟩:=objM_inv (sz:=1) ht hI 1 (by omega) (by omega)
  split
  ·rename_i hc
   obtain⟨a,ha,hN⟩:=i3 hc
   obtain⟨lN,lO,hg,hm⟩:=hN.good
   have hr:rawB (hKind (wat (objM M ten 1 1).W a))=true:=by rw[hN.hd];decide
   have hsz:szW (objM M ten 1 1).W a=1:=by unfold szW;rw[hN.hd];decide
   have hl:=hN.len
   rw[ha]
   obtain⟨k1,k2,k3⟩:=rawM_inv i1 hg hm hr ((objM M ten 1 1).W.set (a+1) (IntKind.u64.wrap v)) (by simp) (fun i hi=>by rw[hsz] at hi;rw[wat_set _ _ _ _ (by omega)]) (fun x hx=>by
    rcases List.mem_or_eq_of_mem_set hx with q|q
    ·exact i1.ok.W x q
    ·rw[q,IntKind.wrap_u64];omega)
   exact⟨k1,i2.trans k2⟩
  ·exact⟨i1,i2⟩
theorem int_place (w:World) (hH:OHeap w B hb b M S ten nx) (hI:HInv M nx) (hE:G4 E w) (r:Int) (hr0:-9223372036854775808≤r∧r≤9223372036854775807) (v:Int) (hR:rootB M r=false) :
  Calls Tryz.prog 15 #[.pointer (some ⟨hb,0,none⟩),.int .i64 r,.int .i64 v] w (HPost w B hb b S ten M nx (errC E 5)):=by
 have HH:=Lib.hid hH
 have HI:=Lib.hid hI
 have HE:=Lib.hid hE
 have HR:=Lib.hid hR
 have k2:∀ W,Ext w W→W.cell? ⟨1,0,none⟩=some (errV (E 4)):=fun W hX=>(hE.ext hX).place
 clear hH hI hE hR
 go_enter Tryz.func15,Tryz.ntmps15
 go_wp2_with (go_at_call 40;refine (root1_any _ (HH.out.ext ((Ext.refl w).alloc_ _)) HI.out.ok w.heap.size r hr0.1 hr0.2 (by rw[World.cell?,heap_alloc_new];rfl)).mono ?_;rintro e w1 ⟨he,hq⟩;rw[HR.out] at he;subst he;have HX1:Hid (Ext w w1):=((Ext.refl w).alloc_ _).trans_ hq;clear hq;have k3:=(HE.out.ext HX1.out).place)
 go_ret
 exact⟨rfl,S,HH.out.ext HX1.out,HStep.of_ext HX1.out⟩
theorem int_walk (w:World) (hH:OHeap w B hb b M S ten nx) (hI:HInv M nx) (hE:G4 E w) (ht:0≤ten∧ten≤15) (hB:GB B) (r:Int) (hr0:-9223372036854775808≤r∧r≤9223372036854775807) (hR:rootB M r=true) (v:Int) :
  Calls Tryz.prog 15 #[.pointer (some ⟨hb,0,none⟩),.int .i64 r,.int .i64 v] w (HPost w B hb b S ten (putR (numM M ten v) (numC M ten v) r.toNat (numV M ten v)) nx (errC E (numC M ten v))):=by
 have HH:=Lib.hid hH
 have HI:=Lib.hid hI
 have HE:=Lib.hid hE
 have HR:=Lib.hid hR
 have HB:=Lib.hid hB
 obtain⟨rn,rfl⟩:∃ rn:Nat,r=(rn:Int):=⟨r.toNat,by have:=(rootB_true.1 hR).1;omega⟩
 have hrl:rn<M.roots.length:=by have:=(rootB_true.1 hR).2;omega
 have hIN:=numM_inv (v:=v) ht hI
 have HIN:=Lib.hid hIN.1
 have hrl2:rn<(numM M ten v).roots.length:=by rw[hIN.2.roots];exact hrl
 simp only[Int.toNat_natCast]
 have HRL:=Lib.hid hrl2
 generalize hV:numV M ten v=V
 have HV:=Lib.hid hV
 clear hH hI hE hR hB hIN hrl2 hV
 go_enter Tryz.func15,Tryz.ntmps15
 go_wp2_with (first
  | (go_at_call 40;refine (root1_any _ (HH.out.ext ((Ext.refl w).alloc_ _)) HI.out.ok w.heap.size (rn:Int) hr0.1 hr0.2 (by rw[World.cell?,heap_alloc_new];rfl)).mono ?_;rintro e w1 ⟨he,hq⟩;rw[HR.out] at he;subst he;have HX1:Hid (Ext w w1):=((Ext.refl w).alloc_ _).trans_ hq;clear hq)
  | (go_at_call 49;refine (number_walk _ (HH.out.ext HX1.out) HI.out (HE.out.ext HX1.out) ht HB.out v).mono ?_;rintro e w2 ⟨he,S2,h1,h2⟩;rw[HV.out] at he;subst he;have HH2:=Lib.hid h1;have HS2:Hid (HStep hb b w S w2 S2):=(HStep.of_ext HX1.out).trans_ h2;clear h1 h2)
  | (go_at_call 42;refine (set_any (E:=E) w2 HH2.out HIN.out.ok (numC M ten v) rn HRL.out V).mono ?_;rintro e w3 ⟨rfl,S3,h3,h4⟩;have HH3:=Lib.hid h3;have HS3:Hid (HStep hb b w S w3 S3):=HS2.out.trans_ h4;clear h3 h4))
 go_ret
 exact⟨rfl,S3,HH3.out,HS3.out⟩
theorem const_place (w:World) (hH:OHeap w B hb b M S ten nx) (hI:HInv M nx) (hE:G4 E w) (r:Int) (hr0:-9223372036854775808≤r∧r≤9223372036854775807) (v:Int) (hR:rootB M r=false) :
  Calls Tryz.prog 22 #[.pointer (some ⟨hb,0,none⟩),.int .i64 r,.int .i64 v] w (HPost w B hb b S ten M nx (errC E 5)):=by
 have HH:=Lib.hid hH
 have HI:=Lib.hid hI
 have HE:=Lib.hid hE
 have HR:=Lib.hid hR
 have k2:∀ W,Ext w W→W.cell? ⟨1,0,none⟩=some (errV (E 4)):=fun W hX=>(hE.ext hX).place
 clear hH hI hE hR
 go_enter Tryz.func22,Tryz.ntmps22
 go_wp2_with (go_at_call 40;refine (root1_any _ (HH.out.ext ((Ext.refl w).alloc_ _)) HI.out.ok w.heap.size r hr0.1 hr0.2 (by rw[World.cell?,heap_alloc_new];rfl)).mono ?_;rintro e w1 ⟨he,hq⟩;rw[HR.out] at he;subst he;have HX1:Hid (Ext w w1):=((Ext.refl w).alloc_ _).trans_ hq;clear hq;have k3:=(HE.out.ext HX1.out).place)
 go_ret
 exact⟨rfl,S,HH.out.ext HX1.out,HStep.of_ext HX1.out⟩
def constC (v:Int):Int:=if 0≤v∧v≤2 then 0 else 2
def constV (v:Int):Int:=if 0≤v∧v≤2 then constW v else 0
theorem ofConst_any (v:Int) (w:World) (hE:G4 E w):Calls Tryz.prog 67 #[.int .i64 v] w fun e w'=>e=.returned (.tuple #[.int .u64 (constV v),errC E (constC v)])∧Ext w w':=by
 unfold constV constC
 by_cases h:0≤v∧v≤2
 ·rw[if_pos h,if_pos h]
  refine (ofConst_yes v h w).mono ?_
  rintro e w9 ⟨rfl,hq⟩
  refine⟨rfl,?_⟩
  first|exact hq|(rw[hq];exact Ext.refl _)
 ·rw[if_neg h,if_neg h]
  refine (ofConst_no v h w (E 1) hE.bound).mono ?_
  rintro e w9 ⟨rfl,hq⟩
  refine⟨rfl,?_⟩
  first|exact hq|(rw[hq];exact Ext.refl _)
theorem const_walk (w:World) (hH:OHeap w B hb b M S ten nx) (hI:HInv M nx) (hE:G4 E w) (r:Int) (hr0:-9223372036854775808≤r∧r≤9223372036854775807) (hR:rootB M r=true) (v:Int) :
  Calls Tryz.prog 22 #[.pointer (some ⟨hb,0,none⟩),.int .i64 r,.int .i64 v] w (HPost w B hb b S ten (putR M (constC v) r.toNat (constV v)) nx (errC E (constC v))):=by
 have HH:=Lib.hid hH
 have HI:=Lib.hid hI
 have HE:=Lib.hid hE
 have HR:=Lib.hid hR
 obtain⟨rn,rfl⟩:∃ rn:Nat,r=(rn:Int):=⟨r.toNat,by have:=(rootB_true.1 hR).1;omega⟩
 have hrl:rn<M.roots.length:=by have:=(rootB_true.1 hR).2;omega
 simp only[Int.toNat_natCast]
 have HRL:=Lib.hid hrl
 generalize hV:constV v=V
 have HV:=Lib.hid hV
 clear hH hI hE hR hrl hV
 go_enter Tryz.func22,Tryz.ntmps22
 go_wp2_with (first
  | (go_at_call 40;refine (root1_any _ (HH.out.ext ((Ext.refl w).alloc_ _)) HI.out.ok w.heap.size (rn:Int) hr0.1 hr0.2 (by rw[World.cell?,heap_alloc_new];rfl)).mono ?_;rintro e w1 ⟨he,hq⟩;rw[HR.out] at he;subst he;have HX1:Hid (Ext w w1):=((Ext.refl w).alloc_ _).trans_ hq;clear hq)
  | (go_at_call 67;refine (ofConst_any v _ (HE.out.ext HX1.out)).mono ?_;rintro e w2 ⟨he,hq⟩;rw[HV.out] at he;subst he;have HX2:Hid (Ext w w2):=HX1.out.trans_ hq;have HH2:=Lib.hid (HH.out.ext HX2.out);have HS2:Hid (HStep hb b w S w2 S):=HStep.of_ext HX2.out;clear hq)
  | (go_at_call 42;refine (set_any (E:=E) w2 HH2.out HI.out.ok (constC v) rn HRL.out V).mono ?_;rintro e w3 ⟨rfl,S3,h3,h4⟩;have HH3:=Lib.hid h3;have HS3:Hid (HStep hb b w S w3 S3):=HS2.out.trans_ h4;clear h3 h4))
 go_ret
 exact⟨rfl,S3,HH3.out,HS3.out⟩
theorem make_place (w:World) (hH:OHeap w B hb b M S ten nx) (hI:HInv M nx) (hE:G4 E w) (r:Int) (hr0:-9223372036854775808≤r∧r≤9223372036854775807) (kind sz:Int) (hR:rootB M r=false) :
  Calls Tryz.prog 11 #[.pointer (some ⟨hb,0,none⟩),.int .i64 r,.int .i64 kind,.int .i64 sz] w (HPost w B hb b S ten M nx (errC E 5)):=by
 have HH:=Lib.hid hH
 have HI:=Lib.hid hI
 have HE:=Lib.hid hE
 have HR:=Lib.hid hR
 have k2:∀ W,Ext w W→W.cell? ⟨1,0,none⟩=some (errV (E 4)):=fun W hX=>(hE.ext hX).place
 clear hH hI hE hR
 go_enter Tryz.func11,Tryz.ntmps11
 go_wp2_with (go_at_call 40;refine (root1_any _ (HH.out.ext ((Ext.refl w).alloc_ _)) HI.out.ok w.heap.size r hr0.1 hr0.2 (by rw[World.cell?,heap_alloc_new];rfl)).mono ?_;rintro e w1 ⟨he,hq⟩;rw[HR.out] at he;subst he;have HX1:Hid (Ext w w1):=((Ext.refl w).alloc_ _).trans_ hq;clear hq;have k3:=(HE.out.ext HX1.out).place)
 go_ret
 exact⟨rfl,S,HH.out.ext HX1.out,HStep.of_ext HX1.out⟩
theorem make_bound (w:World) (hH:OHeap w B hb b M S ten nx) (hI:HInv M nx) (hE:G4 E w) (r:Int) (hr0:-9223372036854775808≤r∧r≤9223372036854775807) (hR:rootB M r=true) (kind sz:Int) (hb1:kind<8∨255<kind∨sz<0∨4096<sz) :
  Calls Tryz.prog 11 #[.pointer (some ⟨hb,0,none⟩),.int .i64 r,.int .i64 kind,.int .i64 sz] w (HPost w B hb b S ten M nx (errC E 2)):=by
 have HH:=Lib.hid hH
 have HI:=Lib.hid hI
 have HE:=Lib.hid hE
 have HR:=Lib.hid hR
 clear hH hI hE hR
 have hb2:kind<8∨(¬kind<8∧255<kind)∨(¬kind<8∧¬255<kind∧sz<0)∨(¬kind<8∧¬255<kind∧¬sz<0∧4096<sz):=by omega
 clear hb1
 rcases hb2 with b1|⟨b1,b2⟩|⟨b1,b2,b3⟩|⟨b1,b2,b3,b4⟩
 all_goals
  go_enter Tryz.func11,Tryz.ntmps11
  go_wp2_with (go_at_call 40;refine (root1_any _ (HH.out.ext ((Ext.refl w).alloc_ _)) HI.out.ok w.heap.size r hr0.1 hr0.2 (by rw[World.cell?,heap_alloc_new];rfl)).mono ?_;rintro e w1 ⟨he,hq⟩;rw[HR.out] at he;subst he;have HX1:Hid (Ext w w1):=((Ext.refl w).alloc_ _).trans_ hq;clear hq;have k3:=(HE.out.ext HX1.out).bound)
  go_ret
  exact⟨rfl,S,HH.out.ext HX1.out,HStep.of_ext HX1.out⟩
theorem make_walk (w:World) (hH:OHeap w B hb b M S ten nx) (hI:HInv M nx) (hE:G4 E w) (ht:0≤ten∧ten≤15) (hB:GB B) (r:Int) (hr0:-9223372036854775808≤r∧r≤9223372036854775807) (hR:rootB M r=true) (kind:Int) (sz:Nat) (hk:8≤kind∧kind≤255) (hz:sz≤4096) :
  Calls Tryz.prog 11 #[.pointer (some ⟨hb,0,none⟩),.int .i64 r,.int .i64 kind,.int .i64 (sz:Int)] w (HPost w B hb b S ten (putR (objM M ten kind sz) (objC M ten sz) r.toNat (addrW (objPl M ten sz))) nx (errC E (objC M ten sz))):=by
 have HH:=Lib.hid hH
 have HI:=Lib.hid hI
 have HE:=Lib.hid hE
 have HR:=Lib.hid hR
 have HB:=Lib.hid hB
 obtain⟨rn,rfl⟩:∃ rn:Nat,r=(rn:Int):=⟨r.toNat,by have:=(rootB_true.1 hR).1;omega⟩
 have hrl:rn<M.roots.length:=by have:=(rootB_true.1 hR).2;omega
 have hIN:=objM_inv ht hI kind sz (by omega) hz
 have HIN:=Lib.hid hIN.1
 have hrl2:rn<(objM M ten kind sz).roots.length:=by rw[hIN.2.1.roots];exact hrl
 simp only[Int.toNat_natCast]
 have HRL:=Lib.hid hrl2
 generalize hV:objPl M ten sz=V
 have HV:=Lib.hid hV
 have t1:¬kind<8:=by omega
 have t2:¬255<kind:=by omega
 have t3:¬(sz:Int)<0:=by omega
 have t4:¬4096<(sz:Int):=by omega
 clear hH hI hE hR hB hIN hrl2 hV
 go_enter Tryz.func11,Tryz.ntmps11
 go_wp2_with (first
  | (go_at_call 40;refine (root1_any _ (HH.out.ext ((Ext.refl w).alloc_ _)) HI.out.ok w.heap.size (rn:Int) hr0.1 hr0.2 (by rw[World.cell?,heap_alloc_new];rfl)).mono ?_;rintro e w1 ⟨he,hq⟩;rw[HR.out] at he;subst he;have HX1:Hid (Ext w w1):=((Ext.refl w).alloc_ _).trans_ hq;clear hq)
  | (go_at_call 41;refine (object_walk kind sz _ (HH.out.ext HX1.out) HI.out (HE.out.ext HX1.out) ht HB.out ⟨by omega,hk.2⟩ hz).mono ?_;rintro e w2 ⟨he,S2,h1,h2⟩;rw[HV.out] at he;subst he;have HH2:=Lib.hid h1;have HS2:Hid (HStep hb b w S w2 S2):=(HStep.of_ext HX1.out).trans_ h2;clear h1 h2)
  | (go_at_call 43;refine (addr_any _ _).mono ?_;rintro e w9 ⟨rfl,hw9⟩;have hw9:=hw9.symm;subst hw9)
  | (go_at_call 42;refine (set_any (E:=E) w2 HH2.out HIN.out.ok (objC M ten sz) rn HRL.out (addrW V)).mono ?_;rintro e w3 ⟨rfl,S3,h3,h4⟩;have HH3:=Lib.hid h3;have HS3:Hid (HStep hb b w S w3 S3):=HS2.out.trans_ h4;clear h3 h4))
 go_ret
 exact⟨rfl,S3,HH3.out,HS3.out⟩
theorem hcopy_place (w:World) (hH:OHeap w B hb b M S ten nx) (hI:HInv M nx) (hE:G4 E w) (r:Int) (hr0:-9223372036854775808≤r∧r≤9223372036854775807) (s:Int) (hs0:-9223372036854775808≤s∧s≤9223372036854775807) (hR:(rootB M r&&rootB M s)=false) :
  Calls Tryz.prog 21 #[.pointer (some ⟨hb,0,none⟩),.int .i64 r,.int .i64 s] w (HPost w B hb b S ten M nx (errC E 5)):=by
 have HH:=Lib.hid hH
 have HI:=Lib.hid hI
 have HE:=Lib.hid hE
 have HR:=Lib.hid hR
 clear hH hI hE hR
 go_enter Tryz.func21,Tryz.ntmps21
 go_wp2_with (go_at_call 40;refine (root2_any _ (HH.out.ext ((Ext.refl w).alloc_ _)) HI.out.ok w.heap.size r s hr0 hs0 (by rw[World.cell?,heap_alloc_new];rfl) (by rw[World.cell?,heap_alloc_new];rfl)).mono ?_;rintro e w1 ⟨he,hq⟩;rw[HR.out] at he;subst he;have HX1:Hid (Ext w w1):=((Ext.refl w).alloc_ _).trans_ hq;clear hq;have k3:=(HE.out.ext HX1.out).place)
 go_ret
 exact⟨rfl,S,HH.out.ext HX1.out,HStep.of_ext HX1.out⟩
theorem hcopy_walk (w:World) (hH:OHeap w B hb b M S ten nx) (hI:HInv M nx) (hE:G4 E w) (r:Int) (hr0:-9223372036854775808≤r∧r≤9223372036854775807) (s:Int) (hs0:-9223372036854775808≤s∧s≤9223372036854775807) (hR:(rootB M r&&rootB M s)=true) :
  Calls Tryz.prog 21 #[.pointer (some ⟨hb,0,none⟩),.int .i64 r,.int .i64 s] w (HPost w B hb b S ten (rootM M r.toNat (M.roots.getD s.toNat 0)) nx (.nilIface)):=by
 have HH:=Lib.hid hH
 have HI:=Lib.hid hI
 have HE:=Lib.hid hE
 have HR:=Lib.hid hR
 obtain⟨hR1,hR2⟩:=Bool.and_eq_true_iff.1 hR
 obtain⟨rn,rfl⟩:∃ rn:Nat,r=(rn:Int):=⟨r.toNat,by have:=(rootB_true.1 hR1).1;omega⟩
 obtain⟨sn,rfl⟩:∃ sn:Nat,s=(sn:Int):=⟨s.toNat,by have:=(rootB_true.1 hR2).1;omega⟩
 have hrl:rn<M.roots.length:=by have:=(rootB_true.1 hR1).2;omega
 have hsl:sn<M.roots.length:=by have:=(rootB_true.1 hR2).2;omega
 simp only[Int.toNat_natCast]
 clear hH hI hE hR hR1 hR2
 go_enter Tryz.func21,Tryz.ntmps21
 go_upto_region 3 with (go_at_call 40;refine (root2_any _ (HH.out.ext ((Ext.refl w).alloc_ _)) HI.out.ok w.heap.size (rn:Int) (sn:Int) hr0 hs0 (by rw[World.cell?,heap_alloc_new];rfl) (by rw[World.cell?,heap_alloc_new];rfl)).mono ?_;rintro e w1 ⟨he,hq⟩;rw[HR.out] at he;subst he;have HX1:Hid (Ext w w1):=((Ext.refl w).alloc_ _).trans_ hq;clear hq)
 have hH1:=HH.out.ext HX1.out
 have q0:=hH1.ptr
 obtain⟨g,hg,-,-,hgf,-,-⟩:=own_block (OMem.fR hH1.mem) (by omega)
 have hfg:=hgf rn
 have c7:=(hH1.mem.fld ⟨7,78,1,S.R.1,M.roots.length,S.R.2,wcells M.roots⟩ (by simp[memFlds])).1
 have hrow:=((row_rsl (OMem.fR hH1.mem)).1)
 rw[hg] at hrow
 have hcell:=hrow.at_ (wcells_at M.roots sn hsl)
 have hcel2:=hrow.at_ (wcells_at M.roots rn hrl)
 simp only[Nat.zero_add] at hcell hcel2
 simp only[Fld.val,hg] at c7
 generalize M.roots.getD sn 0=xx at *
 generalize M.roots.getD rn 0=yy at *
 have HG:=Lib.hid hg
 have HRL:=Lib.hid hrl
 clear hH1 hgf hg hrow
 go_region
 go_wp2
 go_ret
 obtain⟨z1,z2⟩:=(HH.out.ext (HX1.out.drew_)).step (OMem.setR (HH.out.ext (HX1.out.drew_)).mem HG.out rn HRL.out xx) (Keep.set_ (L:=OwnA b S) (Keep.refl _ _) (p:=⟨g,rn,none⟩) (Or.inl (Or.inr (Or.inr (Or.inl HG.out)))) _) (fun _ q=>Or.inl q)
 exact⟨rfl,S,z1,(HStep.of_ext (HX1.out.drew_)).trans_ z2⟩
end
end Go.Proofs.YtelhoppfidibiaaGreatDoor
