/- The walk of heap.New. -/
import Derived.Test.YtelhoppfidibiaaGreatDoorJTa34
import Derived.Test.YtelhoppfidibiaaGreatDoorJTa27
import Derived.Test.YtelhoppfidibiaaGreatDoorJTa17
import Derived.Test.YtelhoppfidibiaaGreatDoorJTa01
import Derived.Test.YtelhoppfidibiaaGreatDoorJTa33
import Derived.IntWalk
import Derived.Laws.Rows
import Derived.Lib.LazyBuf
import Derived.Deep.LoopGhost
import Derived.Deep.Cut
import Derived.Laws.BytesArg
import Derived.Test.YtelhoppfidibiaaGreatDoorJTa20
import Derived.Test.YtelhoppfidibiaaGreatDoorJTa10
import Derived.Test.YtelhoppfidibiaaGreatDoorJTa19
set_option linter.unusedSimpArgs false
set_option linter.unusedVariables false
set_option maxHeartbeats 4000000
set_option maxRecDepth 100000
namespace Go.Proofs.YtelhoppfidibiaaGreatDoor
open Go.RowKit
theorem grown_of_ext {w w':World} (h:Ext w w') (r:Option Nat):w.grownBy w' r:=by
 obtain⟨q1,q2,q3,q4,q5⟩:=h
 exact⟨q1,q2,q3,q4,fun k hk _=>q5 k hk⟩
theorem OMem.putRoots {w w1:World} {B b:Nat} {tI:TypeId} {M:Mem} {S:Sls} (h:OMem w B b tI M S) (l:List Int) (a':Option Addr) (c':Nat) (hx:Ext w w1)
  (ho:w1.ownsRow B 78 1 (.slice a' l.length c') l.length (wcells l)) (hn:(Value.slice a' l.length c').ownBlock=some w.heap.size) :
  OMem (w1.setCell ⟨b,7,none⟩ (.slice a' l.length c')) B b tI {M with roots:=l} {S with R:=(a',c')} :=
 OM.push (L1:=(memFlds tI M S).take 1) (L2:=(memFlds tI M S).drop 2) (f:=⟨7,78,1,S.R.1,M.roots.length,S.R.2,wcells M.roots⟩) h a' l.length c' _ (grown_of_ext hx _) ho (Or.inr hn)
theorem OM.lower {w:World} {B B' b:Nat} {nums:List (Nat × Int)} {L:List Fld} (h:OM w B b nums L) (hB:B'≤B):OM w B' b nums L :=
 ⟨Nat.le_trans hB h.hb,h.blk,h.num,fun f hf=>⟨(h.fld f hf).1,own_le (h.fld f hf).2.1 hB (Ext.refl _),(h.fld f hf).2.2⟩,h.apart,h.offs⟩
def newHM (half old card:Int) (n:Nat):Mem:={newM half old card with roots:=List.replicate n 2}
theorem newHM_ok (half old card:Int) (n:Nat) (h:newOK half old card=true) (hn:n≤5000):(newHM half old card n).Ok:=by
 obtain⟨h1,h2,h3,h4,h5,h6,h7,h8,h9,h10,h11,h12,h13,h14,h15⟩:=newM_ok half old card h
 exact⟨h1,h2,h3,h4,h5,h6,h7,fun x hx=>by rw[(List.mem_replicate.1 hx).2];omega,h9,h10,h11,by unfold newHM;simp;omega,h13,h14,h15⟩
def HNewPost (w:World) (ten:Int) (M:Mem) (e:Ending) (w':World):Prop :=
 ∃ hb b S,e=.returned (.tuple #[.pointer (some ⟨hb,0,none⟩),.nilIface])∧OHeap w' w.heap.size hb b M S ten 1∧Ext w w'
theorem oheap_new {W:World} {B b:Nat} {M:Mem} {S:Sls} (h:OMem W B b 140 M S) (hx:B≤W.heap.size) (ten nx:Int) (t:TypeId) :
  OHeap (W.alloc (.cells #[.pointer (some ⟨b,0,none⟩),.int .i64 ten,.int .i64 nx] t)) B W.heap.size b M S ten nx:=by
 refine⟨OM.ext h ((Ext.refl _).alloc_ _),hx,⟨_,_,heap_alloc_new _ _⟩,?_,?_,?_,fun e=>?_⟩
 ·rw[World.cell?,heap_alloc_new];rfl
 ·rw[World.cell?,heap_alloc_new];rfl
 ·rw[World.cell?,heap_alloc_new];rfl
 ·have:=(OMem.own_size h e).2;omega
theorem hnew_yes (half old card ten:Int) (n:Nat) (h:newOK half old card=true) (ht:0≤ten∧ten≤15) (hn:n≤5000) (w:World) :
  Calls Tryz.prog 10 #[.agg #[.int .i64 half,.int .i64 old,.int .i64 card,.int .i64 ten],.int .i64 (n:Int)] w (HNewPost w ten (newHM half old card n)):=by
 have t1:¬ten<0:=by omega
 have t2:¬15<ten:=by omega
 have t3:¬(n:Int)<0:=by omega
 have t4:¬5000<(n:Int):=by omega
 go_enter Tryz.func10,Tryz.ntmps10
 go_upto_region 2 with (go_at_call 37;refine (new_yes half old card h _).mono ?_;rintro e w1 ⟨b,S,rfl,hom,hx⟩;have HO:=Lib.hid hom;have HX:=Lib.hid hx;clear hom hx)
 have HX1:Hid (Ext w w1):=((Ext.refl w).alloc_ _).trans_ HX.out
 have HZ:=HX.out.size
 have hbz:=OM.lt HO.out
 have c3:w1.cell? ⟨w.heap.size,3,none⟩=some (.int .i64 ten):=HX.out.cell_ (by rw[World.cell?,heap_alloc_new];rfl)
 have hfb:=OM.frozen HO.out 7
 have hMc:=HO.out.mem (newM_ok half old card h)
 have c7:w1.cell? ⟨b,7,none⟩=some (.slice S.R.1 (0:Nat) S.R.2):=hMc.roots
 have hwz:w.heap.size<w1.heap.size:=by simp at HZ;omega
 obtain⟨W2,hW2⟩:∃ W,W=w1.alloc (.cells #[.int .u64 (constW 0)] 78):=⟨_,rfl⟩
 have hRep:=repeat1_walk w1.heap.size 0 1 n (constW 0) W2 (by rw[hW2,World.cell?,heap_alloc_new];rfl) hn
 have hXA:Ext w1 W2:=by rw[hW2];exact (Ext.refl _).alloc_ _
 have HXA:=Lib.hid hXA
 have HREP:=Lib.hid hRep
 clear hMc HX hXA hRep
 go_wp2_with (first
  | (go_at_call 39;refine (const_any 0 _).mono ?_;rintro e w9 ⟨rfl,hw9⟩;have hw9:=hw9.symm;subst hw9)
  | (go_at_call 38;rw[←hW2];refine HREP.out.mono ?_;rintro e w4 ⟨rfl,hrow,hq⟩;have HRW:=Lib.hid hrow;have HX4:=Lib.hid hq;have c74:=(HXA.out.trans_ hq).cell_ c7;have c34:=(HXA.out.trans_ hq).cell_ c3;have hf74:w4.frozen? ⟨b,7,none⟩=false:=(by rw[(HXA.out.trans_ hq).three.2.1 _ _ hbz];exact hfb);have hz4:=(HXA.out.trans_ hq).size;clear hrow hq hW2))
 go_ret2
 have hO2:OMem W2 w.heap.size b 140 (newM half old card) S:=OM.ext (OM.lower HO.out (by simp)) HXA.out
 have hO5:=OMem.putRoots hO2 (List.replicate n 2) (some ⟨W2.heap.size,0,none⟩) n HX4.out (by rw[List.length_replicate];exact own_le HRW.out (by have:=HX1.out.size;have:=HXA.out.size;omega) (Ext.refl _)) (by simp[Value.ownBlock])
 rw[List.length_replicate] at hO5
 have hH:=oheap_new hO5 (by simp;omega) ten 1 84
 rw[World.size_setCell] at hH
 have hbw:w.heap.size≤b:=Nat.le_trans (by simp) (OM.hb HO.out)
 exact⟨w4.heap.size,b,_,rfl,hH,Ext.alloc_ (Ext.set_ ((HX1.out.trans_ HXA.out).trans_ HX4.out) hbw _) _⟩
def Tz16 (w:World):Prop:=w.cell? ⟨10,15,none⟩=some (.int .u8 4)
theorem ba_app (a b:List UInt8):(⟨a.toArray⟩:ByteArray)++⟨b.toArray⟩=⟨(a++b).toArray⟩:=by
 apply ByteArray.ext
 simp
theorem byteS_of {n:Int} {x:UInt8} (h:n%256=(x.toNat:Int)):byteS n=⟨[x].toArray⟩:=by
 unfold byteS strOfNums
 rw[h]
 simp
theorem dig_nat (m:Nat) (h:m<10):byteS (48 - -(m:Int))=⟨[UInt8.ofNat (48+m)].toArray⟩:=byteS_of (by
 rw[UInt8.toNat_ofNat']
 omega)
theorem tmod10 (n:Int) (h:n≤0):n.tmod 10=-((-n)%10):=by
 have h1:(-n).tmod 10=(-n)%10:=Int.tmod_eq_emod_of_nonneg (by omega)
 rw[←h1,Int.neg_tmod,Int.neg_neg]
theorem belowS_dec:∀ (f m:Nat),m<10^(f+1)→belowS f (-(m:Int))=⟨(Lib.decDigits m).toArray⟩
 | 0,m,h=>by
  have h':m<10:=by simpa using h
  rw[Lib.decDigits,dif_pos h']
  exact dig_nat m h'
 | f+1,m,h=>by
  unfold belowS
  by_cases h':m<10
  ·rw[if_pos (by omega),Lib.decDigits,dif_pos h']
   exact dig_nat m h'
  ·rw[if_neg (by omega),Lib.decDigits,dif_neg h']
   have e1:(-(m:Int)).tdiv 10=-((m/10:Nat):Int):=by rw[tdiv10 _ (by omega)];omega
   have e2:(-(m:Int)).tmod 10=-((m%10:Nat):Int):=by rw[tmod10 _ (by omega)];omega
   have hlt:m/10<10^(f+1):=by
    rw[Nat.pow_succ] at h
    generalize 10^(f+1)=p at *
    omega
   rw[e1,e2,belowS_dec f (m/10) hlt,dig_nat (m%10) (Nat.mod_lt _ (by decide)),ba_app]
theorem decS_itoa (n:Int) (h0:-9223372036854775808≤n) (h1:n≤9223372036854775807):(⟨(Lib.itoa n).toArray⟩:ByteArray)=decS n:=by
 have hp:(10:Nat)^21=1000000000000000000000:=by decide
 unfold Lib.itoa decS
 by_cases h:n<0
 ·rw[if_pos h,if_pos h]
  have e:n=-((n.natAbs:Nat):Int):=by omega
  conv=>rhs;rw[e]
  rw[belowS_dec 20 _ (by rw[hp];omega)]
  have:(⟨#[45]⟩:ByteArray)=⟨[45].toArray⟩:=rfl
  rw[this,ba_app];rfl
 ·rw[if_neg h,if_neg h]
  have e:-n=-((n.toNat:Nat):Int):=by omega
  rw[e,belowS_dec 20 _ (by rw[hp];omega)]
end Go.Proofs.YtelhoppfidibiaaGreatDoor
