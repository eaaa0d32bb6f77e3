/- The walk of heap.New. -/
import Derived.Test.YtelhoppfidibiaaGreatDoorJXa29
import Derived.Test.YtelhoppfidibiaaGreatDoorJXa16
set_option linter.unusedSimpArgs false
set_option linter.unusedVariables false
set_option maxHeartbeats 4000000
set_option maxRecDepth 100000
namespace Go.Proofs.YtelhoppfidibiaaGreatDoor
open Go.RowKit
theorem E1r {w w':World} (h:A0 w w') (r:Option Nat):w.grownBy w' r:=by
 obtain⟨q1,q2,q3,q4,q5⟩:=h;exact⟨q1,q2,q3,q4,fun k hk _=>q5 k hk⟩
theorem B7.putRoots {w w1:World} {B b:Nat} {tI:TypeId} {M:A7} {S:C8} (h:B7 w B b tI M S) (l:List Int) (a':Option Addr) (c':Nat) (hx:A0 w w1)
  (ho:w1.ownsRow B 78 1 (.slice a' l.length c') l.length (C5 l)) (hn:(Value.slice a' l.length c').ownBlock=some w.heap.size) :
  B7 (w1.setCell ⟨b,7,none⟩ (.slice a' l.length c')) B b tI {M with roots:=l} {S with R:=(a',c')} :=
 OM.push (L1:=(F3 tI M S).take 1) (L2:=(F3 tI M S).drop 2) (f:=⟨7,78,1,S.R.1,M.roots.length,S.R.2,C5 M.roots⟩) h a' l.length c' _ (E1r hx _) ho (Or.inr hn)
theorem OM.lower {w:World} {B B' b:Nat} {nums:List (Nat × Int)} {L:List I6} (h:OM w B b nums L) (hB:B'≤B):OM w B' b nums L :=
 ⟨Nat.le_trans hB h.hb,h.blk,h.num,fun f hf=>⟨(h.fld f hf).1,A2n (h.fld f hf).2.1 hB (A0.refl _),(h.fld f hf).2.2⟩,h.apart,h.offs⟩
def A3j (half old card:Int) (n:Nat):A7:={T3 half old card with roots:=List.replicate n 2}
theorem E7q (half old card:Int) (n:Nat) (h:A1i half old card=true) (hn:n≤5000):(A3j half old card n).Ok:=by
 obtain⟨h1,h2,h3,h4,h5,h6,h7,h8,h9,h10,h11,h12,h13,h14,h15⟩:=C8w half old card h;exact⟨h1,h2,h3,h4,h5,h6,h7,fun x hx=>by rw[(List.mem_replicate.1 hx).2];omega,h9,h10,h11,by unfold A3j;simp;omega,h13,h14,h15⟩
def B9d (w:World) (ten:Int) (M:A7) (e:Ending) (w':World):Prop :=
 ∃ hb b S,e=.returned (.tuple #[.pointer (some ⟨hb,0,none⟩),.nilIface])∧E7 w' w.heap.size hb b M S ten 1∧A0 w w'
theorem E8z {W:World} {B b:Nat} {M:A7} {S:C8} (h:B7 W B b 140 M S) (hx:B≤W.heap.size) (ten nx:Int) (t:TypeId) :
  E7 (W.alloc (.cells #[.pointer (some ⟨b,0,none⟩),.int .i64 ten,.int .i64 nx] t)) B W.heap.size b M S ten nx:=by
 refine⟨OM.ext h ((A0.refl _).alloc_ _),hx,⟨_,_,heap_alloc_new _ _⟩,?_,?_,?_,fun e=>?_⟩
 ·rw[World.cell?,heap_alloc_new];rfl
 ·rw[World.cell?,heap_alloc_new];rfl
 ·rw[World.cell?,heap_alloc_new];rfl
 ·have:=(B7.own_size h e).2;omega
theorem C0s (half old card ten:Int) (n:Nat) (h:A1i half old card=true) (ht:0≤ten∧ten≤15) (hn:n≤5000) (w:World) :
  Calls Tryz.prog 10 #[.agg #[.int .i64 half,.int .i64 old,.int .i64 card,.int .i64 ten],.int .i64 (n:Int)] w (B9d w ten (A3j half old card n)):=by
 have t1:¬ten<0:=by omega
 have t2:¬15<ten:=by omega
 have t3:¬(n:Int)<0:=by omega
 have t4:¬5000<(n:Int):=by omega
 go_enter Tryz.func10,Tryz.ntmps10
 go_upto_region 2 with (go_at_call 37;refine (C8z half old card h _).mono ?_;rintro e w1 ⟨b,S,rfl,hom,hx⟩;have HO:=Hz hom;have HX:=Hz hx;clear hom hx)
 have HX1:Hid (A0 w w1):=((A0.refl w).alloc_ _).trans_ HX.out;have HZ:=HX.out.size;have hbz:=OM.lt HO.out;have c3:w1.cell? ⟨w.heap.size,3,none⟩=some (.int .i64 ten):=HX.out.cell_ (by rw[World.cell?,heap_alloc_new];rfl);have hfb:=OM.frozen HO.out 7;have hMc:=HO.out.mem (C8w half old card h);have c7:w1.cell? ⟨b,7,none⟩=some (.slice S.R.1 (0:Nat) S.R.2):=hMc.roots;have hwz:w.heap.size<w1.heap.size:=by simp at HZ;omega
 obtain⟨W2,hW2⟩:∃ W,W=w1.alloc (.cells #[.int .u64 (P3 0)] 78):=⟨_,rfl⟩;have hRep:=F0q w1.heap.size 0 1 n (P3 0) W2 (by rw[hW2,World.cell?,heap_alloc_new];rfl) hn;have hXA:A0 w1 W2:=by rw[hW2];exact (A0.refl _).alloc_ _
 have HXA:=Hz hXA;have HREP:=Hz hRep;clear hMc HX hXA hRep
 go_wp2_with (first
  | (go_at_call 39;refine (B3n 0 _).mono ?_;rintro e w9 ⟨rfl,hw9⟩;have hw9:=hw9.symm;subst hw9)
  | (go_at_call 38;rw[←hW2];refine HREP.out.mono ?_;rintro e w4 ⟨rfl,hrow,hq⟩;have HRW:=Hz hrow;have HX4:=Hz hq;have c74:=(HXA.out.trans_ hq).cell_ c7;have c34:=(HXA.out.trans_ hq).cell_ c3;have hf74:w4.frozen? ⟨b,7,none⟩=false:=(by rw[(HXA.out.trans_ hq).three.2.1 _ _ hbz];exact hfb);have hz4:=(HXA.out.trans_ hq).size;clear hrow hq hW2))
 go_ret2
 have hO2:B7 W2 w.heap.size b 140 (T3 half old card) S:=OM.ext (OM.lower HO.out (by simp)) HXA.out;have hO5:=B7.putRoots hO2 (List.replicate n 2) (some ⟨W2.heap.size,0,none⟩) n HX4.out (by rw[List.length_replicate];exact A2n HRW.out (by have:=HX1.out.size;have:=HXA.out.size;omega) (A0.refl _)) (by simp[Value.ownBlock]);rw[List.length_replicate] at hO5;have hH:=E8z hO5 (by simp;omega) ten 1 84;rw[World.size_setCell] at hH;have hbw:w.heap.size≤b:=Nat.le_trans (by simp) (OM.hb HO.out);exact⟨w4.heap.size,b,_,rfl,hH,A0.alloc_ (A0.set_ ((HX1.out.trans_ HXA.out).trans_ HX4.out) hbw _) _⟩
def C3v (w:World):Prop:=w.cell? ⟨10,15,none⟩=some (.int .u8 4)
theorem B5t (a b:List UInt8):(⟨a.toArray⟩:ByteArray)++⟨b.toArray⟩=⟨(a++b).toArray⟩:=by
 apply ByteArray.ext;simp
theorem B9t {n:Int} {x:UInt8} (h:n%256=(x.toNat:Int)):A0o n=⟨[x].toArray⟩:=by
 unfold A0o strOfNums;rw[h];simp
theorem C0a (m:Nat) (h:m<10):A0o (48 - -(m:Int))=⟨[UInt8.ofNat (48+m)].toArray⟩:=B9t (by
 rw[UInt8.toNat_ofNat'];omega)
theorem F7k (n:Int) (h:n≤0):n.tmod 10=-((-n)%10):=by
 have h1:(-n).tmod 10=(-n)%10:=Int.tmod_eq_emod_of_nonneg (by omega);rw[←h1,Int.neg_tmod,Int.neg_neg]
theorem B9p:∀ (f m:Nat),m<10^(f+1)→A4c f (-(m:Int))=⟨(Lib.decDigits m).toArray⟩
 | 0,m,h=>by
  have h':m<10:=by simpa using h
  rw[Lib.decDigits,dif_pos h'];exact C0a m h'
 | f+1,m,h=>by
  unfold A4c;by_cases h':m<10
  ·rw[if_pos (by omega),Lib.decDigits,dif_pos h'];exact C0a m h'
  ·rw[if_neg (by omega),Lib.decDigits,dif_neg h'];have e1:(-(m:Int)).tdiv 10=-((m/10:Nat):Int):=by rw[D2e _ (by omega)];omega
   have e2:(-(m:Int)).tmod 10=-((m%10:Nat):Int):=by rw[F7k _ (by omega)];omega
   have hlt:m/10<10^(f+1):=by
    rw[Nat.pow_succ] at h;generalize 10^(f+1)=p at *
    omega
   rw[e1,e2,B9p f (m/10) hlt,C0a (m%10) (Nat.mod_lt _ (by decide)),B5t]
theorem C4x (n:Int) (h0:-9223372036854775808≤n) (h1:n≤9223372036854775807):(⟨(Lib.itoa n).toArray⟩:ByteArray)=P8 n:=by
 have hp:(10:Nat)^21=1000000000000000000000:=by decide
 unfold Lib.itoa P8;by_cases h:n<0
 ·rw[if_pos h,if_pos h];have e:n=-((n.natAbs:Nat):Int):=by omega
  conv=>rhs;rw[e]
  rw[B9p 20 _ (by rw[hp];omega)];have:(⟨#[45]⟩:ByteArray)=⟨[45].toArray⟩:=rfl;rw[this,B5t];rfl
 ·rw[if_neg h,if_neg h];have e:-n=-((n.toNat:Nat):Int):=by omega
  rw[e,B9p 20 _ (by rw[hp];omega)]
theorem E8b (a:Int) (h0:0≤a) (h1:a≤18446744073709551615):wrap64 a/4=A2l a:=by
 unfold wrap64 A2l;split<;>omega
theorem E8a (a:Int) (h0:0≤a) (h1:a≤18446744073709551615) (w:World) :
  Calls Tryz.prog 114 #[.int .u64 a] w fun e w'=>e=.returned (.int .i64 (A2l a))∧w'=w:=by
 rw[←E8b a h0 h1]
 go_enter Tryz.func114,Tryz.ntmps114
 go_wp2;go_ret;exact⟨rfl,rfl⟩
end Go.Proofs.YtelhoppfidibiaaGreatDoor
