/- The document's Quoted; Decimal of any int. -/
import Derived.Test.YtelhoppfidibiaaGreatDoorJXa36
set_option linter.unusedSimpArgs false
set_option linter.unusedVariables false
set_option maxHeartbeats 8000000
set_option maxRecDepth 100000
namespace Go.Proofs.YtelhoppfidibiaaGreatDoor
open Go.RowKit
open IntWalk renaming i64_in→Za
open List renaming contains_iff_mem→Zb,getD_eq_getElem?_getD→Zc,getElem?_eq_getElem→Zd,getElem_mem→Ze,mem_map→Zf,take_of_length_le→Zg
open Go.Proofs.Tryz renaming prog→Zh
theorem B3o (n:Int) (h0:-9223372036854775808≤n) (h1:n≤9223372036854775807) (w:World):Calls Zh 65 #[.int .i64 n] w fun e w'=>e=.returned (.string (P8 n))∧A0 w w':=by
 unfold P8;by_cases hq:n<0
 ·rw[if_pos hq];have hz:=B3i 20 n
  go_enter Tryz.func65,Tryz.ntmps65
  go_wp2_with (go_at_call 121;refine (B9q 20 n (by omega) (by omega) (by omega) (by omega) _).mono ?_;rintro e w1 ⟨rfl,hq1⟩;have HX1:=Hz hq1;clear hq1)
  go_ret;exact⟨rfl,HX1.out⟩
 ·rw[if_neg hq];have e1:IntKind.i64.wrap (-n)=-n:=Za _ (by omega)
  go_enter Tryz.func65,Tryz.ntmps65
  go_wp2_with (go_at_call 121;refine (B9q 20 (-n) (by omega) (by omega) (by omega) (by omega) _).mono ?_;rintro e w1 ⟨rfl,hq1⟩;have HX1:=Hz hq1;clear hq1)
  go_ret;exact⟨rfl,HX1.out⟩
def A4j (l:List UInt8):ByteArray:=⟨(34::A3k l).toArray⟩
theorem D0r (l m:List UInt8):(⟨(34::(A3k l++m)).toArray⟩:ByteArray)=A4j l++⟨m.toArray⟩:=by
 unfold A4j;rw[B5t];rfl
theorem F0a (l:List UInt8):(A4j l).size≤4*l.length+1:=by
 have:=C2g l;show (34::A3k l).toArray.size≤_;simp only[List.size_toArray,List.length_cons];omega
theorem F0b (s:ByteArray) (k:Nat) (hk:k<s.size):A4j (s.data.toList.take (k+1))=A4j (s.data.toList.take k)++⟨(A3c s[k]).toArray⟩:=by
 have hl:k<s.data.toList.length:=by simpa using hk
 have:=D0t s.data.toList k hl;have e:s.data.toList[k]=s[k]:=rfl;rw[e] at this;show (⟨(34::A3k (s.data.toList.take (k+1))).toArray⟩:ByteArray)=_;rw[this,D0r]
theorem D6e (c:UInt8):A0o (c.toNat:Int)=⟨[c].toArray⟩:=B9t (by have:=c.toNat_lt;omega)
theorem B3k:A0o 92=⟨[92].toArray⟩:=B9t (by decide)
theorem A7s (o:ByteArray) (a b:List UInt8):(o++⟨a.toArray⟩)++⟨b.toArray⟩=o++⟨(a++b).toArray⟩:=by
 rw[ByteArray.append_assoc,B5t a b]
theorem E2j:∀ v:Fin 16,B4b.extract v.val (v.val+1)=⟨[A2i v.val].toArray⟩:=by decide +kernel
theorem C6k (v:Nat) (hv:v<16) (n m:Int) (hn:n=(v:Int)) (hm:m=(v:Int)+1) (W:World):(Instr.slice 9 (.string ⟨#[48,49,50,51,52,53,54,55,56,57,97,98,99,100,101,102]⟩) (some (.int .i64 n)) (some (.int .i64 m)) none).run Zh W=.ok (.string ⟨[A2i v].toArray⟩) W:=by
 have:=run_slice_string (P:=Zh) W 9 B4b .i64 .i64 n m (by kernel_rfl) (by omega) (by omega) (by show m≤(16:Nat);omega);rw[this];congr 2;have e1:n.toNat=v:=by omega
 have e2:m.toNat=v+1:=by omega
 rw[e1,e2];exact E2j ⟨v,hv⟩
theorem D5z (c:UInt8):c.toNat<256:=c.toNat_lt
theorem F0e (s:ByteArray) (w:World) (hs:s.size≤17592186044416) :
  Calls Zh 66 #[.string s] w fun e w'=>e=.returned (.string (A5n s))∧A0 w w':=by
 go_enter Tryz.func66,Tryz.ntmps66
 go_upto_region 4 with fail
 go_loopg [4,5] (s.size) (fun r o i wr=>∃ (k:Nat) (q:ByteArray),k+r=s.size∧o=.string q∧i=.int .i64 (k:Int)∧Hid (q=A4j (s.data.toList.take k))∧q.size≤4*k+1∧Hid (A0 w wr))
 case atStart=>exact⟨0,⟨#[34]⟩,by omega,rfl,rfl,rfl,Nat.le_refl _,A0.refl _⟩
 case round =>
  obtain⟨k,q,hk,rfl,rfl,hq,hqz,hE⟩:=hrel
  cases gk with
  | succ r =>
   have hlt:k<s.size:=by omega
   have hltz:(k:Int)<(s.size:Int):=by omega
   have hsn:=F0b s k hlt;rw[←hq.out] at hsn;have hq2:(A4j (s.data.toList.take (k+1))).size≤4*(k+1)+1:=by
    have:=F0a (s.data.toList.take (k+1));have h2:(s.data.toList.take (k+1)).length≤k+1:=by simp;omega
    omega
   have HQ2:=Hz hq2;have HK:=Hz hk;have hcb:=D5z s[k];have hz92:=B1n 92;have hzc:=B1n (s[k].toNat:Int);have HC:=Hz (D6e s[k]);have HSN:Hid (∀ m,A3c s[k]=m→A4j (s.data.toList.take (k+1))=q++⟨m.toArray⟩):=fun m hm=>by rw[hsn,hm]
   have HQ1:Hid (∀ x:UInt8,s[k]=x→A3c s[k]=A3c x):=fun x hx=>by rw[hx]
   clear hk hsn hq2 hq;generalize hc:s[k]=c at *
   have hci:Hid (s[k]=c):=hc;have e0:((s[k]).toNat:Int)=(c.toNat:Int):=by rw[hc]
   clear hc;by_cases c10:c.toNat=10
   ·have z10:((c.toNat:Int)==10)=true:=by simp;omega
    have hm:=HSN.out [92,110] (by unfold A3c;rw[if_pos c10]);have HM:=Hz hm;clear hm c10
    go_wp2_with (go_at_call 122;refine (A6t _ _).mono ?_;rintro e w1 ⟨rfl,hq1⟩;have HB:=Hz hq1;clear hq1)
    go_roundg r
    case measure=>omega
    case rel =>
     have hqe:(q++A0o 92)++(⟨#[110]⟩:ByteArray)=A4j (s.data.toList.take (k+1)):=by rw[HM.out,B3k,show (⟨#[110]⟩:ByteArray)=⟨[110].toArray⟩ from rfl,A7s];rfl
     exact⟨k+1,_,by have:=HK.out;omega,rfl,by go_num,hqe,by rw[hqe];exact HQ2.out,hE.out.trans_ HB.out⟩
   have z10:((c.toNat:Int)==10)=false:=by simp;omega
   by_cases c34:c.toNat=34∨c.toNat=92
   ·have hm:=HSN.out [92,c] (by unfold A3c;rw[if_neg c10,if_pos c34]);have HM:=Hz hm;clear hm c10;by_cases d34:c.toNat=34
    ·have z34:((c.toNat:Int)==34)=true:=by simp;omega
     clear c34 d34
     go_wp2_with (first
      | (go_at_call 122;refine (A6t 92 _).mono ?_;rintro e w1 ⟨rfl,hq1⟩;have HB0:=Hz hq1;clear hq1)
      | (go_at_call 122;refine (A6t (c.toNat:Int) _).mono ?_;rintro e w2 ⟨rfl,hq1⟩;have HB:=Hz (HB0.out.trans_ hq1);clear hq1))
     go_roundg r
     case measure=>omega
     case rel =>
      have hqe:(q++A0o 92)++A0o (c.toNat:Int)=A4j (s.data.toList.take (k+1)):=by rw[HM.out,B3k,HC.out,A7s];rfl
      exact⟨k+1,_,by have:=HK.out;omega,rfl,by go_num,hqe,by rw[hqe];exact HQ2.out,hE.out.trans_ HB.out⟩
    ·have z34:((c.toNat:Int)==34)=false:=by simp;omega
     have z92:((c.toNat:Int)==92)=true:=by simp;omega
     clear c34 d34
     go_wp2_with (first
      | (go_at_call 122;refine (A6t 92 _).mono ?_;rintro e w1 ⟨rfl,hq1⟩;have HB0:=Hz hq1;clear hq1)
      | (go_at_call 122;refine (A6t (c.toNat:Int) _).mono ?_;rintro e w2 ⟨rfl,hq1⟩;have HB:=Hz (HB0.out.trans_ hq1);clear hq1))
     go_roundg r
     case measure=>omega
     case rel =>
      have hqe:(q++A0o 92)++A0o (c.toNat:Int)=A4j (s.data.toList.take (k+1)):=by rw[HM.out,B3k,HC.out,A7s];rfl
      exact⟨k+1,_,by have:=HK.out;omega,rfl,by go_num,hqe,by rw[hqe];exact HQ2.out,hE.out.trans_ HB.out⟩
   have z34:((c.toNat:Int)==34)=false:=by simp;omega
   have z92:((c.toNat:Int)==92)=false:=by simp;omega
   by_cases c32:c.toNat<32∨126<c.toNat
   ·have hm:=HSN.out [92,120,A2i (c.toNat/16),A2i (c.toNat%16)] (by unfold A3c;rw[if_neg c10,if_neg c34,if_pos c32]);have HM:=Hz hm;have i1:∀ W:World,(Instr.slice 9 (.string ⟨#[48,49,50,51,52,53,54,55,56,57,97,98,99,100,101,102]⟩) (some (.int .i64 ((c.toNat:Int)/16))) (some (.int .i64 ((c.toNat:Int)/16+1))) none).run Zh W=.ok (.string ⟨[A2i (c.toNat/16)].toArray⟩) W:=fun W=>C6k (c.toNat/16) (by omega) _ _ (by omega) (by omega) W
    have i2:∀ W:World,(Instr.slice 9 (.string ⟨#[48,49,50,51,52,53,54,55,56,57,97,98,99,100,101,102]⟩) (some (.int .i64 ((c.toNat:Int)%16))) (some (.int .i64 ((c.toNat:Int)%16+1))) none).run Zh W=.ok (.string ⟨[A2i (c.toNat%16)].toArray⟩) W:=fun W=>C6k (c.toNat%16) (by omega) _ _ (by omega) (by omega) W
    have I1:=Hz i1;have I2:=Hz i2;have e1:IntKind.i64.wrap ((c.toNat:Int)/16+1)=(c.toNat:Int)/16+1:=Za _ (by omega);have e2:IntKind.i64.wrap ((c.toNat:Int)%16+1)=(c.toNat:Int)%16+1:=Za _ (by omega);have e3:IntKind.i64.wrap ((c.toNat:Int)/16)=(c.toNat:Int)/16:=Za _ (by omega);have e5:(c.toNat:Int).tdiv 16=(c.toNat:Int)/16:=Int.tdiv_eq_ediv_of_nonneg (by omega);have e6:(c.toNat:Int).tmod 16=(c.toNat:Int)%16:=Int.tmod_eq_emod_of_nonneg (by omega);generalize A2i (c.toNat/16)=h1 at *
    generalize A2i (c.toNat%16)=h2 at *
    have s1:(⟨[h1].toArray⟩:ByteArray).size=1:=rfl;have s2:(⟨[h2].toArray⟩:ByteArray).size=1:=rfl;generalize hb1:(⟨[h1].toArray⟩:ByteArray)=b1 at *
    generalize hb2:(⟨[h2].toArray⟩:ByteArray)=b2 at *
    have HB1:=Hz hb1;have HB2:=Hz hb2;clear hm c10 c34 i1 i2 hb1 hb2;by_cases d32:c.toNat<32
    ·have z32:decide ((c.toNat:Int)<32)=true:=decide_eq_true (by omega);clear c32 d32
     go_upto_region 13 with fail
     have f1:¬9223372036854775807<q.size+1:=by omega
     have f2:¬9223372036854775807<q.size+1+1:=by omega
     have f3:¬9223372036854775807<q.size+1+1+1:=by omega
     have f4:¬9223372036854775807<q.size+1+1+1+1:=by omega
     have g1:¬maxLen<q.size+1:=by unfold maxLen;omega
     have g2:¬maxLen<q.size+1+1:=by unfold maxLen;omega
     have g3:¬maxLen<q.size+1+1+1:=by unfold maxLen;omega
     have g4:¬maxLen<q.size+1+1+1+1:=by unfold maxLen;omega
     refine wp_region_held_drew (S:=fun W=>True) (by kernel_rfl) ?_ (fun hH=>?_)
     ·trivial
     refine tJ 0 48 rfl ?_
     try simp only[A5]
     refine tJ 4 52 rfl ?_
     try simp only[A5]
     refine tJ 5 53 rfl ?_
     try simp only[A5]
     refine tJ 6 54 rfl ?_
     try simp only[A5]
     refine tJ 7 55 rfl ?_
     try simp only[A5]
     refine tJ 8 56 rfl ?_
     try simp only[A5]
     refine tJ 9 57 rfl ?_
     try simp only[A5]
     refine tk 10 ⟨some 58,_,_,_,_,_⟩ ?_ rfl ?_ ?_;rotate_left
     ·(intro w hSw;have hlk:=I1.out w;go_simp;try with_reducible rfl)
     try simp only[A5]
     refine tJ 12 60 rfl ?_
     try simp only[A5]
     refine tJ 13 61 rfl ?_
     try simp only[A5]
     refine tJ 14 62 rfl ?_
     try simp only[A5]
     refine tJ 15 63 rfl ?_
     try simp only[A5]
     refine tJ 16 64 rfl ?_
     try simp only[A5]
     refine tJ 17 65 rfl ?_
     try simp only[A5]
     refine tk 18 ⟨some 66,_,_,_,_,_⟩ ?_ rfl ?_ ?_;rotate_left
     ·(intro w hSw;have hlk:=I2.out w;go_simp;try with_reducible rfl)
     try simp only[A5]
     refine wpAnyH_ready (rs:=[1]) (by kernel_rfl) (by simp) ?_;refine AllReadyH.cons (o:=⟨some 49,_,_,_,_,_⟩) rfl (fun K hK=>?_) AllReadyH.nil;go_simp;refine (A6t 92 _).mono ?_;rintro e w1 ⟨rfl,hq1⟩;have HB:Hid (A0 wr w1):=A0.trans_ (by first|exact A0.refl _|exact (A0.refl _).drew_|exact (A0.refl _).drewN_ _) hq1;clear hq1;refine hK.out _ _ ?_ (fun hH=>?_)
     ·(try dsimp only);first|done|trivial
     clear hK K
     try simp only[A5]
     refine tJ 2 50 rfl ?_
     try simp only[A5]
     refine tJ 3 51 rfl ?_
     try simp only[A5]
     refine tJ 11 59 rfl ?_
     try simp only[A5]
     refine tJ 19 67 rfl ?_
     try simp only[A5]
     refine tJ 20 4 rfl ?_
     try simp only[A5]
     refine wpAnyH_done (by kernel_rfl) ?_ _;clear hH f1 f2 f3 f4 g1 g2 g3 g4;go_wp2
     go_roundg r
     case measure=>omega
     case rel =>
      have hqe:(((q++A0o 92)++(⟨#[120]⟩:ByteArray))++b1)++b2=A4j (s.data.toList.take (k+1)):=by rw[HM.out,B3k,←HB1.out,←HB2.out,show (⟨#[120]⟩:ByteArray)=⟨[120].toArray⟩ from rfl,A7s,A7s,A7s];rfl
      exact⟨k+1,_,by have:=HK.out;omega,rfl,by go_num,hqe,by rw[hqe];exact HQ2.out,hE.out.trans_ HB.out⟩
    ·have z32:decide ((c.toNat:Int)<32)=false:=decide_eq_false (by omega);have z126:decide (126<(c.toNat:Int))=true:=decide_eq_true (by omega);clear c32 d32
     go_upto_region 13 with fail
     have f1:¬9223372036854775807<q.size+1:=by omega
     have f2:¬9223372036854775807<q.size+1+1:=by omega
     have f3:¬9223372036854775807<q.size+1+1+1:=by omega
     have f4:¬9223372036854775807<q.size+1+1+1+1:=by omega
     have g1:¬maxLen<q.size+1:=by unfold maxLen;omega
     have g2:¬maxLen<q.size+1+1:=by unfold maxLen;omega
     have g3:¬maxLen<q.size+1+1+1:=by unfold maxLen;omega
     have g4:¬maxLen<q.size+1+1+1+1:=by unfold maxLen;omega
     refine wp_region_held_drew (S:=fun W=>True) (by kernel_rfl) ?_ (fun hH=>?_)
     ·trivial
     refine tJ 0 48 rfl ?_
     try simp only[A5]
     refine tJ 4 52 rfl ?_
     try simp only[A5]
     refine tJ 5 53 rfl ?_
     try simp only[A5]
     refine tJ 6 54 rfl ?_
     try simp only[A5]
     refine tJ 7 55 rfl ?_
     try simp only[A5]
     refine tJ 8 56 rfl ?_
     try simp only[A5]
     refine tJ 9 57 rfl ?_
     try simp only[A5]
     refine tk 10 ⟨some 58,_,_,_,_,_⟩ ?_ rfl ?_ ?_;rotate_left
     ·(intro w hSw;have hlk:=I1.out w;go_simp;try with_reducible rfl)
     try simp only[A5]
     refine tJ 12 60 rfl ?_
     try simp only[A5]
     refine tJ 13 61 rfl ?_
     try simp only[A5]
     refine tJ 14 62 rfl ?_
     try simp only[A5]
     refine tJ 15 63 rfl ?_
     try simp only[A5]
     refine tJ 16 64 rfl ?_
     try simp only[A5]
     refine tJ 17 65 rfl ?_
     try simp only[A5]
     refine tk 18 ⟨some 66,_,_,_,_,_⟩ ?_ rfl ?_ ?_;rotate_left
     ·(intro w hSw;have hlk:=I2.out w;go_simp;try with_reducible rfl)
     try simp only[A5]
     refine wpAnyH_ready (rs:=[1]) (by kernel_rfl) (by simp) ?_;refine AllReadyH.cons (o:=⟨some 49,_,_,_,_,_⟩) rfl (fun K hK=>?_) AllReadyH.nil;go_simp;refine (A6t 92 _).mono ?_;rintro e w1 ⟨rfl,hq1⟩;have HB:Hid (A0 wr w1):=A0.trans_ (by first|exact A0.refl _|exact (A0.refl _).drew_|exact (A0.refl _).drewN_ _) hq1;clear hq1;refine hK.out _ _ ?_ (fun hH=>?_)
     ·(try dsimp only);first|done|trivial
     clear hK K
     try simp only[A5]
     refine tJ 2 50 rfl ?_
     try simp only[A5]
     refine tJ 3 51 rfl ?_
     try simp only[A5]
     refine tJ 11 59 rfl ?_
     try simp only[A5]
     refine tJ 19 67 rfl ?_
     try simp only[A5]
     refine tJ 20 4 rfl ?_
     try simp only[A5]
     refine wpAnyH_done (by kernel_rfl) ?_ _;clear hH f1 f2 f3 f4 g1 g2 g3 g4;go_wp2
     go_roundg r
     case measure=>omega
     case rel =>
      have hqe:(((q++A0o 92)++(⟨#[120]⟩:ByteArray))++b1)++b2=A4j (s.data.toList.take (k+1)):=by rw[HM.out,B3k,←HB1.out,←HB2.out,show (⟨#[120]⟩:ByteArray)=⟨[120].toArray⟩ from rfl,A7s,A7s,A7s];rfl
      exact⟨k+1,_,by have:=HK.out;omega,rfl,by go_num,hqe,by rw[hqe];exact HQ2.out,hE.out.trans_ HB.out⟩
   ·have hm:=HSN.out [c] (by unfold A3c;rw[if_neg c10,if_neg c34,if_neg c32]);have HM:=Hz hm;have z32:decide ((c.toNat:Int)<32)=false:=decide_eq_false (by omega);have z126:decide (126<(c.toNat:Int))=false:=decide_eq_false (by omega);clear hm c10 c34 c32
    go_wp2_with (go_at_call 122;refine (A6t _ _).mono ?_;rintro e w1 ⟨rfl,hq1⟩;have HB:=Hz hq1;clear hq1)
    go_roundg r
    case measure=>omega
    case rel =>
     have hqe:q++A0o (c.toNat:Int)=A4j (s.data.toList.take (k+1)):=by rw[HM.out,HC.out]
     exact⟨k+1,_,by have:=HK.out;omega,rfl,by go_num,hqe,by rw[hqe];exact HQ2.out,hE.out.trans_ HB.out⟩
  | zero =>
   obtain rfl:k=s.size:=by omega
   have hltz:¬((s.size:Nat):Int)<(s.size:Int):=by omega
   have hfin:A5n s=q++⟨#[34]⟩:=by
    have h2:s.data.toList.take s.size=s.data.toList:=Zg (by simp);rw[hq.out,h2];show (⟨(34::(A3k s.data.toList++[34])).toArray⟩:ByteArray)=_;rw[D0r]
   have HF:=Hz hfin;clear hfin hk hq;go_wp2;go_ret;exact⟨by rw[HF.out];rfl,hE.out⟩
theorem U3.comes {I:B4} (hw:D5 I) (hl:I.V.length≤1000000000):∀ (us:List Int) (l:List Ob),U3 I l→(∀ u∈us,P2 I.P u)→U3 I (M8 I.V l us)
 | [],l,g,_=>g
 | u::us,l,g,h=>by
  unfold M8;rw[List.foldl_cons];exact U3.comes hw hl us _ (g.come hw hl (h u (by simp))) fun v hv=>h v (by simp[hv])
theorem C9c {I:B4} (hw:D5 I) {x:Ob} (hx:x=D4 I.V x.a∧x.a∈I.P) (hr:D2 (B3 x.w)=false):∀ u∈K8 I.V x,P2 I.P u:=fun u hu=>by
 have hxw:x.w=A6 I.V x.a:=by rw[hx.1];rfl
 obtain⟨i,hi,rfl⟩:=Zf.1 hu;rw[hxw] at hr;exact hw.fld _ hx.2 hr i (by have:=List.mem_range.1 hi;unfold A9;rw[←hxw];exact this)
theorem U3.step {I:B4} (hw:D5 I) (hl:I.V.length≤1000000000) {l:List Ob} (g:U3 I l) {x:Ob} (hx:x∈l):U3 I (V7 I.V l x):=by
 unfold V7
 split
 ·exact g
 ·rename_i hr;exact U3.comes hw hl _ l g (C9c hw (g.ob x hx) (by simpa using hr))
theorem U3.reachG {I:B4} (hw:D5 I) (hl:I.V.length≤1000000000):∀ (n k:Nat) (l:List Ob),U3 I l→U3 I (reachG I.V n k l)
 | 0,k,l,g=>g
 | n+1,k,l,g=>by
  unfold Go.Proofs.YtelhoppfidibiaaGreatDoor.reachG
  cases e:l[k]? with
  | none=>exact g
  | some o=>exact U3.reachG hw hl n (k+1) _ (g.step hw hl (List.mem_of_getElem? e))
theorem A9i {I:B4} (hw:D5 I) (hl:I.V.length≤1000000000):U3 I (K4 I) :=
 U3.reachG hw hl _ _ _ (U3.comes hw hl _ _ (U3.nil I) hw.roots)
theorem F0i {I:B4} {i:Nat} (hi:i<I.roots.length) {a:Nat} (h:B6 (I.roots.getD i 0)=(a:Int)):a∈(K4 I).map (·.a) :=
 F0j I (by rw[Zc,Zd hi];exact Ze hi) h
theorem F0k {I:B4} (hw:D5 I) (hl:I.V.length≤1000000000) {o:Ob} (ho:o∈K4 I) (hr:D2 (B3 o.w)=false) {u:Int} (hu:u∈K8 I.V o) {b:Nat} (hb:B6 u=(b:Int)):b∈(K4 I).map (·.a):=by
 have hlen:=(A9i hw hl).len hw;have hs:=C2i I.V I.V.length 0 (M8 I.V [] I.roots) (fun j hj=>by omega) (show (K4 I).length≤I.V.length+0 from hlen) o ho;rcases hs with q|q
 ·rw[hr] at q;cases q
 ·have:=q u hu (by omega);rw[hb] at this;obtain⟨o2,ho2,e⟩:=Zf.1 (Zb.1 this);exact Zf.2 ⟨o2,ho2,by omega⟩
theorem E8l {l:List Ob} {a:Nat} (h:a∈l.map (·.a)):0≤L9 l (a:Int):=by
 rw[C1w];obtain⟨o,ho,e⟩:=Zf.1 h;exact Zb.2 (Zf.2 ⟨o,ho,by show (o.a:Int)=_;rw[e]⟩)
theorem E8j (l:List Ob) (p:Int):L9 l p<(l.length:Int)∧-1≤L9 l p:=by
 unfold L9
 cases h:l.findIdx? (fun o=>(o.a:Int)==p) with
 | none=>simp;omega
 | some i =>
  obtain⟨hi,-⟩:=List.findIdx?_eq_some_iff_getElem.1 h;simp;omega
theorem D6p (k:Int) (n:Int) (p:Option Addr) (v:Value) (w:World) (hk:0≤k∧k≤2):Calls Zh 64 #[.agg #[.int .i64 k,.int .i64 n,.pointer p],v] w fun e w'=>e=.returned (.string (B3m k.toNat))∧A0 w w':=by
 obtain rfl|rfl|rfl:k=0∨k=1∨k=2:=by omega
 all_goals
  go_enter Tryz.func64,Tryz.ntmps64
  go_wp2;go_ret;exact⟨rfl,by repeat (first|exact A0.refl _|(refine A0.alloc_ ?_ _)|(refine A0.drew_ ?_))⟩
theorem D6q (n:Int) (p:Option Addr) (v:Value) (w:World) (hn:-9223372036854775808≤n∧n≤9223372036854775807):Calls Zh 64 #[.agg #[.int .i64 3,.int .i64 n,.pointer p],v] w fun e w'=>e=.returned (.string (P8 n))∧A0 w w':=by
 go_enter Tryz.func64,Tryz.ntmps64
 go_wp2_with (go_at_call 65;refine (B3o n hn.1 hn.2 _).mono ?_;rintro e w1 ⟨rfl,hq⟩;have HX1:Hid (A0 w w1):=((A0.refl w).alloc_ _).trans_ hq;clear hq)
 go_ret;exact⟨rfl,HX1.out⟩
theorem D6r (n:Int) (A:Option Addr) (C:Nat) (l:List Ob) (pl:Nat→Nat) (a:Nat) (w:World) (hR:F7 w A (A7b pl l)) (hl:l.length≤1000000000) (hinj:∀ o∈l,pl o.a=pl a→o.a=a) (hpb:∀ o∈l,PB w (pl o.a)) (hpa:PB w (pl a)) :
  Calls Zh 64 #[.agg #[.int .i64 4,.int .i64 n,.pointer (some ⟨pl a,0,none⟩)],.slice A l.length C] w fun e w'=>e=.returned (.string (⟨#[64]⟩++P8 (L9 l (a:Int))))∧A0 w w':=by
 have HR:=Hz hR;have HI:=Hz hinj;have HPB:Hid (∀ w',A0 w w'→(∀ o∈l,PB w' (pl o.a))∧PB w' (pl a)):=fun w' hx=>⟨fun o ho=>(hpb o ho).ext hx,hpa.ext hx⟩
 obtain⟨b1,b2⟩:=E8j l (a:Int);have hdz:=A5k (L9 l (a:Int));generalize ho:L9 l (a:Int)=ob at *
 have HOB:=Hz ho;clear hR hinj hpb hpa ho
 go_enter Tryz.func64,Tryz.ntmps64
 go_wp2_with (first
  | (go_at_call 120;refine (B7q _ _ l pl a _ (HR.out.ext ((A0.refl _).alloc_ _)) hl HI.out (HPB.out _ ((A0.refl _).alloc_ _)).1 (HPB.out _ ((A0.refl _).alloc_ _)).2).mono ?_;rintro e w1 ⟨he,hq⟩;rw[HOB.out] at he;subst he;have HX1:Hid (A0 w w1):=((A0.refl w).alloc_ _).trans_ hq;clear hq)
  | (go_at_call 65;refine (B3o ob (by omega) (by omega) _).mono ?_;rintro e w2 ⟨rfl,hq⟩;have HX2:Hid (A0 w w2):=HX1.out.trans_ hq;clear hq))
 go_ret;exact⟨rfl,HX2.out⟩
theorem E8c {u:Int} (h:0≤u∧u≤18446744073709551615):-9223372036854775808≤A2l u∧A2l u≤9223372036854775807:=by unfold A2l;split<;>omega
theorem C4i {w0 w:World} {B0:Nat} {I:B4} {nx:Int} {X:Q7} (hM:E9 w0 B0 I nx X) (hx:A0 w0 w) (hw:D5 I) (hl:I.V.length≤1000000000) {u:Int} (hu:P2 I.P u) (A:Option Addr) (C:Nat) (l:List Ob) (hg:U3 I l) (hR:F7 w A (A7b X.pl l)) (hin:∀ a:Nat,B6 u=(a:Int)→a∈l.map (·.a)) :
  Calls Zh 64 #[.agg #[.int .i64 (S9 u),.int .i64 (A1b u),.pointer (O7 X.pl u)],.slice A l.length C] w fun e w'=>e=.returned (.string (T4 u l))∧A0 w w':=by
 have hll:=hg.len hw;by_cases hp:0≤B6 u
 ·obtain⟨a,ha⟩:∃ a:Nat,B6 u=(a:Int):=⟨(B6 u).toNat,by omega⟩;have hm:=(P2.pts hw hl hu ha).1;have e1:S9 u=4:=if_pos hp;have e2:O7 X.pl u=some ⟨X.pl a,0,none⟩:=by unfold O7;rw[if_pos hp,ha,Int.toNat_natCast]
  obtain⟨k1,k2,k3⟩:=B0w ha;have k1':u%4=0:=k1;have hob:=E8l (hin a ha);have e3:T4 u l=⟨#[64]⟩++P8 (L9 l (a:Int)):=by
   unfold T4;rw[if_neg (by omega),if_neg (by omega),if_neg k2,ha,if_neg (by omega)]
  rw[e1,e2,e3];exact D6r _ A C l X.pl a w hR (by omega) (fun o ho e=>hM.inj (hg.ob o ho).2 hm e) (fun o ho=>PB.ext ((hM.node _ (hg.ob o ho).2).blk) hx) (PB.ext ((hM.node a hm).blk) hx)
 ·rcases hu with⟨a,ha,rfl⟩|⟨n,-,rfl⟩|⟨c,hc,rfl⟩
  ·exact absurd (by rw[(A5a (show a≤1000000000 by have:=hw.dom a ha;omega)).1];omega) hp
  ·obtain⟨w1,w2,w3⟩:=B0o n;have hk:P6 n%4=1:=w3;have e1:S9 (P6 n)=3:=by unfold S9;rw[if_neg hp,if_pos hk]
   have e2:A1b (P6 n)=A2l (P6 n):=by unfold A1b;rw[if_neg hp,if_pos hk]
   have e3:T4 (P6 n) l=P8 (A2l (P6 n)):=by unfold T4;rw[if_pos hk]
   rw[e1,e2,e3];exact D6q _ _ _ w (E8c ⟨w1,w2⟩)
  ·obtain⟨w1,w2,w3⟩:=B1p c;have hk:P3 c%4=2:=w3;have e1:S9 (P3 c)=c:=by unfold S9;rw[if_neg hp,if_neg (by omega)];unfold P3;omega
   have e3:T4 (P3 c) l=B3m c.toNat:=by
    unfold T4;rw[if_neg (by omega),if_pos hk];congr 2;unfold P3;omega
   rw[e1,e3];exact D6p c _ _ _ w hc
theorem C8s (w:World) (B:Nat) (I:B4) (nx:Int) (X:Q7) (hM:E9 w B I nx X) (hw:D5 I) (hl:I.V.length≤1000000000) (hrl:I.roots.length≤1000000) :
  Calls Zh 20 #[.pointer (some ⟨X.mb,0,none⟩)] w fun e w'=>e=.returned (.string (A2q I))∧A0 w w':=by
 have HM:=Hz hM;have HW:=Hz hw;have HGT:=Hz (A9i hw hl);have hll:=(A9i hw hl).len hw;have HRI:Hid (∀ i,i<I.roots.length→∀ a:Nat,B6 (I.roots.getD i 0)=(a:Int)→a∈(K4 I).map (·.a)):=fun i hi a ha=>F0i hi ha
 have HSI:Hid (∀ o∈K4 I,D2 (B3 o.w)=false→∀ u∈K8 I.V o,∀ b:Nat,B6 u=(b:Int)→b∈(K4 I).map (·.a)):=fun o ho hr u hu b hb=>F0k hw hl ho hr hu hb
 have HSH:Hid (A2q I=V6 I.V (K4 I) 0 (K4 I) (A1l (K4 I) I.roots ⟨#[]⟩)):=rfl;have HRW:=Hz (C1r w B I nx X hM hw hl hrl);clear hM hw;generalize A2q I=sh at *
 generalize K4 I=l at *
 go_enter Tryz.func20,Tryz.ntmps20
 go_upto_region 4 with (go_at_call 63;refine HRW.out.mono ?_;rintro e w1 ⟨ra,rc,rfl,hO,hq⟩;have HX1:=Hz hq;have HRR:=Hz ((R4 hO).1);clear hq hO)
 clear HRW;have z5:(⟨#[114,111,111,116,32]⟩:ByteArray).size=5:=rfl;have z1:(⟨#[32]⟩:ByteArray).size=1:=rfl;have z2:(⟨#[10]⟩:ByteArray).size=1:=rfl
 go_loopg [5,4] (I.roots.length) (fun r i out wr=>∃ (k:Nat) (s:ByteArray),k+r=I.roots.length∧i=.int .i64 (k:Int)∧out=.string s∧s.size≤40*k∧Hid (s=A1l l (I.roots.take k) ⟨#[]⟩)∧Hid (A0 w1 wr))
 case atStart=>exact⟨0,⟨#[]⟩,by omega,rfl,rfl,Nat.zero_le _,rfl,A0.refl _⟩
 case round =>
  obtain⟨k,s,hk,rfl,rfl,hsz,hS,hE⟩:=hrel;have hMr:=HM.out.ext (HX1.out.trans_ hE.out);have r0:=hMr.roots
  cases gk with
  | succ r =>
   have hlt:k<I.roots.length:=by omega
   have hltz:(k:Int)<(I.roots.length:Int):=by omega
   obtain⟨c0,c1,c2⟩:=hMr.root k hlt;have hu:=HW.out.root hlt;have hin:=HRI.out k hlt;have hsn:=B6o (A2p l) ⟨#[]⟩ I.roots k hlt;have hgd:I.roots[k]=I.roots.getD k 0:=by rw[Zc,Zd hlt];rfl
   rw[hgd] at hsn;have f1:IntKind.i64.wrap ((k:Int)+1)=((k+1:Nat):Int):=by rw[Za _ (by omega)];omega
   generalize I.roots.getD k 0=u at *
   have htz:=A9x u l;have hrz:=D1a l s u;have HU:=Hz hu;have HIN:=Hz hin;have HK:=Hz hk;have HSN:=Hz hsn;clear hMr hu hk hsn hlt hin hgd
   go_wp2_with (go_at_call 64;refine (C4i HM.out (HX1.out.trans_ (hE.out.trans_ eX)) HW.out hl HU.out ra rc l HGT.out (HRR.out.ext (hE.out.trans_ eX)) HIN.out).mono ?_;rintro e w2 ⟨rfl,hq⟩;have HX2:Hid (A0 w1 w2):=hE.out.trans_ (A0.trans_ eX hq);clear hq)
   go_roundg r
   case measure=>omega
   case rel =>
    refine⟨k+1,A2p l s u,by have:=HK.out;omega,by go_num,rfl,by omega,?_,HX2⟩;show _=_;unfold A1l;rw[HSN.out];have:=hS.out;unfold A1l at this;rw[←this]
  | zero =>
   obtain rfl:k=I.roots.length:=by omega
   have hltz:¬((I.roots.length:Nat):Int)<(I.roots.length:Int):=by omega
   have hS':s=A1l l I.roots ⟨#[]⟩:=by have:=hS.out;rw[List.take_length] at this;exact this
   have HG0:Hid (V6 I.V l 0 (l.drop 0) s=sh):=by rw[Hid,HSH.out,←hS',List.drop_zero]
   have hsz0:s.size≤40000000:=by omega
   obtain⟨wA,rfl⟩:∃ x,x=wr:=⟨wr,rfl⟩;have hE0:=hE;clear hS hS' hMr hk hsz
   go_upto_region 8 with fail
   go_loopg [6,4] (l.length) (fun r i out wr2=>∃ (k:Nat) (s:ByteArray),k+r=l.length∧i=.int .i64 (k:Int)∧out=.string s∧s.size≤40000000+200000*k∧Hid (V6 I.V l k (l.drop k) s=sh)∧Hid (A0 w1 wr2))
   case atStart=>exact⟨0,s,by omega,rfl,rfl,by omega,HG0.out,hE0.out⟩
   case round =>
    clear HG0 hsz0 r0 hltz hE;obtain⟨k,s,hk,rfl,rfl,hsz,hS,hE⟩:=hrel
    cases gk with
    | succ r =>
     have hlt:k<l.length:=by omega
     have hltz:(k:Int)<(l.length:Int):=by omega
     obtain⟨ob,oo,hoa,c00⟩:=(HRR.out.ext hE.out) _ _ (B2h X.pl l k hlt);subst hoa;have hmem:l[k]∈l:=Ze hlt;obtain⟨g1,g2⟩:=HGT.out.ob _ hmem;have hMr:=HM.out.ext (HX1.out.trans_ hE.out);have hnd:=hMr.node _ g2;have hdrop:l.drop k=l[k]::l.drop (k+1):=List.drop_eq_getElem_cons hlt;have hs2:=hS.out;rw[hdrop,V6] at hs2;obtain⟨x,hxx⟩:∃ x,l[k]=x:=⟨_,rfl⟩;have HLK:Hid (∀ h:k<l.length,l[k]=x):=fun h=>hxx
     rw[hxx] at hmem g1 g2 hnd hs2;have c0:wr.cell? ⟨ob,oo+k,none⟩=some (.pointer (some ⟨X.pl x.a,0,none⟩)):=by rw[←hxx];exact c00
     have HXM:=Hz hmem;clear hxx c00;have hxw:x.w=A6 I.V x.a:=by rw[g1];rfl
     have hxn:A9 I.V x.a=x.n:=by unfold A9 Ob.n;rw[hxw]
     have hhd:=HW.out.head _ g2;have hro:A2s I.V x:=by rw[g1];exact hhd.raw
     have hkz:0≤B3 x.w∧B3 x.w≤255:=by
      obtain⟨kd,n,e,hk1,hn⟩:=hhd.hd;obtain⟨d1,d2,d3,d4,d5⟩:=A1t kd 0 0 (n:Int) hk1 (by omega) (by omega) ⟨by omega,by omega⟩;rw[hxw,e,d2];exact hk1
     have hn4:x.n≤4096:=by
      obtain⟨kd,n,e,hk1,hn⟩:=hhd.hd;obtain⟨d1,d2,d3,d4,d5⟩:=A1t kd 0 0 (n:Int) hk1 (by omega) (by omega) ⟨by omega,by omega⟩;unfold Ob.n;rw[hxw,e,d5];omega
     have HROx:=Hz hro;have HSF:=Hz (fun hr=>HSI.out x hmem hr);have n0:=hnd.kind;have n1:=hnd.flds;have n2:=hnd.num;have n3:=hnd.str;rw[←hxw] at n0 n2 n3;have HXW:=Hz hxw;have HXN:=Hz hxn;have HG2:=Hz g2;have HK:=Hz hk;obtain⟨kd,hkd⟩:∃ kd,B3 x.w=kd:=⟨_,rfl⟩;rw[hkd] at n0 n2 n3 hs2 hkz;have HKD:=Hz hkd;have hdz1:=A5k (k:Int);have hdz2:=A5k kd;have f1:IntKind.i64.wrap ((k:Int)+1)=((k+1:Nat):Int):=by rw[Za _ (by omega)];omega
     have hk64:(k:Int)≤9223372036854775807:=by omega
     have hhs:=C0p k kd s;have HS2:=Hz hs2;have HMR:=Hz hMr;have HSZ:=Hz hsz;have s1:¬9223372036854775807<s.size+(P8 (k:Int)).size:=by omega
     have s2:¬9223372036854775807<s.size+(P8 (k:Int)).size+1:=by omega
     have s3:¬9223372036854775807<s.size+(P8 (k:Int)).size+1+(P8 kd).size:=by omega
     clear hS hdrop hmem g1 g2 hMr hnd hs2 hxw hxn hhd hro hkd hk hlt
     go_upto_region 10 with fail
     go_wp2;refine wp_region_held_drew (S:=fun W=>W.cell? ⟨ob,oo+k,none⟩=some (.pointer (some ⟨X.pl x.a,0,none⟩))∧W.cell? ⟨X.pl x.a,0,none⟩=some (.int .i64 kd)) (by kernel_rfl) ?_ (fun hH=>?_)
     ·exact⟨c0,n0⟩
     refine tk 0 ⟨some 38,_,_,_,_,_⟩ ?_ rfl ?_ ?_;rotate_left
     ·(intro w hSw;(try dsimp only at hSw);obtain⟨g1,g2⟩:=hSw;go_simp;try with_reducible rfl)
     try simp only[A5]
     refine tk 1 ⟨some 39,_,_,_,_,_⟩ ?_ rfl ?_ ?_;rotate_left
     ·(intro w hSw;(try dsimp only at hSw);obtain⟨g1,g2⟩:=hSw;go_simp;try with_reducible rfl)
     try simp only[A5]
     refine tk 5 ⟨some 43,_,_,_,_,_⟩ ?_ rfl ?_ ?_;rotate_left
     ·(intro w hSw;(try dsimp only at hSw);obtain⟨g1,g2⟩:=hSw;go_simp;try with_reducible rfl)
     try simp only[A5]
     refine tk 6 ⟨some 44,_,_,_,_,_⟩ ?_ rfl ?_ ?_;rotate_left
     ·(intro w hSw;(try dsimp only at hSw);obtain⟨g1,g2⟩:=hSw;go_simp;try with_reducible rfl)
     try simp only[A5]
     refine tk 7 ⟨some 45,_,_,_,_,_⟩ ?_ rfl ?_ ?_;rotate_left
     ·(intro w hSw;(try dsimp only at hSw);obtain⟨g1,g2⟩:=hSw;go_simp;try with_reducible rfl)
     try simp only[A5]
     refine tk 8 ⟨some 46,_,_,_,_,_⟩ ?_ rfl ?_ ?_;rotate_left
     ·(intro w hSw;(try dsimp only at hSw);obtain⟨g1,g2⟩:=hSw;go_simp;try with_reducible rfl)
     try simp only[A5]
     refine tk 9 ⟨some 47,_,_,_,_,_⟩ ?_ rfl ?_ ?_;rotate_left
     ·(intro w hSw;(try dsimp only at hSw);obtain⟨g1,g2⟩:=hSw;go_simp;try with_reducible rfl)
     try simp only[A5]
     refine tk 10 ⟨some 48,_,_,_,_,_⟩ ?_ rfl ?_ ?_;rotate_left
     ·(intro w hSw;(try dsimp only at hSw);obtain⟨g1,g2⟩:=hSw;go_simp;try with_reducible rfl)
     try simp only[A5]
     refine tk 11 ⟨some 49,_,_,_,_,_⟩ ?_ rfl ?_ ?_;rotate_left
     ·(intro w hSw;(try dsimp only at hSw);obtain⟨g1,g2⟩:=hSw;go_simp;try with_reducible rfl)
     try simp only[A5]
     refine wpAnyH_ready (rs:=[2]) (by kernel_rfl) (by simp) ?_;refine AllReadyH.cons (o:=⟨some 40,_,_,_,_,_⟩) rfl (fun K hK=>?_) AllReadyH.nil;go_simp;refine (B3o (k:Int) (by omega) (by omega) _).mono ?_;rintro e w6 ⟨rfl,hq⟩;have q6:=And.intro (hq.cell_ hH.1) (hq.cell_ hH.2);have HX6:Hid (A0 wr w6):=A0.trans_ eX hq;clear hq;refine hK.out _ _ ?_ (fun hH=>?_)
     ·(try dsimp only);exact q6
     clear hK K
     try simp only[A5]
     refine tk 3 ⟨some 41,_,_,_,_,_⟩ ?_ rfl ?_ ?_;rotate_left
     ·(intro w hSw;(try dsimp only at hSw);obtain⟨g1,g2⟩:=hSw;go_simp;try with_reducible rfl)
     try simp only[A5]
     refine tk 4 ⟨some 42,_,_,_,_,_⟩ ?_ rfl ?_ ?_;rotate_left
     ·(intro w hSw;(try dsimp only at hSw);obtain⟨g1,g2⟩:=hSw;go_simp;try with_reducible rfl)
     try simp only[A5]
     refine wpAnyH_ready (rs:=[12]) (by kernel_rfl) (by simp) ?_;refine AllReadyH.cons (o:=⟨some 50,_,_,_,_,_⟩) rfl (fun K hK=>?_) AllReadyH.nil;go_simp;refine (B3o kd (by omega) (by omega) _).mono ?_;rintro e w7 ⟨rfl,hq⟩;have q7:=And.intro (hq.cell_ hH.1) (hq.cell_ hH.2);have HX7:Hid (A0 w6 w7):=A0.trans_ eX hq;clear hq;refine hK.out _ _ ?_ (fun hH=>?_)
     ·(try dsimp only);exact q7
     clear hK K
     try simp only[A5]
     refine tk 13 ⟨some 51,_,_,_,_,_⟩ ?_ rfl ?_ ?_;rotate_left
     ·(intro w hSw;(try dsimp only at hSw);obtain⟨g1,g2⟩:=hSw;go_simp;try with_reducible rfl)
     try simp only[A5]
     refine tk 14 ⟨some 4,_,_,_,_,_⟩ ?_ rfl ?_ ?_;rotate_left
     ·(intro w hSw;(try dsimp only at hSw);obtain⟨g1,g2⟩:=hSw;go_simp;try with_reducible rfl)
     try simp only[A5]
     refine wpAnyH_done (by kernel_rfl) ?_ _;clear hH;generalize hy:s++P8 (k:Int)++(⟨#[32]⟩:ByteArray)++P8 kd=y;have hhy:A0f k kd s=y:=hy;have HS3:Hid (V6 I.V l (k+1) (l.drop (k+1)) (Q9 I.V l x y++⟨#[10]⟩)=sh):=by have h:=HS2.out;rw[hhy] at h;exact h
     rw[hhy] at hhs;have HXZ:Hid (A0 wr w7):=HX6.out.trans_ HX7.out;have N0:=Hz n0;have N1:=Hz n1;have N2:=Hz n2;have N3:=Hz n3;have C0:=Hz c0;clear hy hhy n0 n1 n2 n3 c0 HS2 q6 q7 s1 s2 s3 hdz1 hdz2;have hyz:y.size≤40000000+200000*k+50:=by have:=HSZ.out;omega
     have hyz2:y.size≤2000000000000000:=by omega
     have HYZ:=Hz hyz;clear hyz hhs;have n0:=HXZ.out.cell_ N0.out;have n1:=HXZ.out.cell_ N1.out;have n2:=HXZ.out.cell_ N2.out;have n3:=HXZ.out.cell_ N3.out;have c0:=HXZ.out.cell_ C0.out;by_cases hk1:kd=1
     ·have hk1b:(kd==1)=true:=by simpa using hk1
      have hk2b:(kd==2)=false:=by simp;omega
      have e1:A2f X I.V x.a=.slice none 0 0:=if_pos (by rw[←HXW.out,HKD.out];omega);rw[e1] at n1;rw[if_pos hk1] at n2;have hbd:Q9 I.V l x y=(y++⟨#[32]⟩)++P8 (Z5 I.V x.a):=by unfold Q9;rw[HKD.out,if_pos hk1]
      have HBD:=Hz hbd;have hts:=A5k (Z5 I.V x.a);clear hbd
      go_upto_region 16 with (go_at_call 65;refine (B3o (Z5 I.V x.a) (B7f _ _).1 (B7f _ _).2 _).mono ?_;rintro e w8 ⟨rfl,hq⟩;have HXY:Hid (A0 wr w8):=HXZ.out.trans_ (A0.trans_ eX hq);clear hq)
      clear n0 n1 n2 n3 c0;have n0:=HXY.out.cell_ N0.out;have n1:=HXY.out.cell_ N1.out;have n2:=HXY.out.cell_ N2.out;have n3:=HXY.out.cell_ N3.out;have c0:=HXY.out.cell_ C0.out;rw[e1] at n1;generalize hz:(y++(⟨#[32]⟩:ByteArray))++P8 (Z5 I.V x.a)=z at *
      have hzz:z.size≤y.size+60:=by rw[←hz];simp only[ByteArray.size_append];omega
      have HZ:=Hz (HBD.out);clear hz hts;go_wp2;refine wp_loop_rounds 1 ?_;rw[rounds_succ];go_wp2
      go_roundg r
      case measure=>omega
      case rel=>exact⟨k+1,z++⟨#[10]⟩,by have:=HK.out;omega,by go_num,rfl,by rw[ByteArray.size_append];have:=HYZ.out;omega,by have h:=HS3.out;rw[HZ.out] at h;exact h,hE.out.trans_ (HXY.out.trans_ eX)⟩
     have hk1b:(kd==1)=false:=by simpa using hk1
     rw[if_neg hk1] at n2;by_cases hk2:kd=2
     ·have hk2b:(kd==2)=true:=by simpa using hk2
      have e1:A2f X I.V x.a=.slice none 0 0:=if_pos (by rw[←HXW.out,HKD.out];omega);rw[e1] at n1;rw[if_pos hk2] at n3;have hbd:Q9 I.V l x y=(y++⟨#[32]⟩)++A5n (V0 I.V x.a):=by unfold Q9;rw[HKD.out,if_neg hk1,if_pos hk2]
      have HBD:=Hz hbd;have htt:(V0 I.V x.a).size≤2000:=by rw[B8k];have:=HROx.out.two (HKD.out.trans hk2);omega
      have hts:(A5n (V0 I.V x.a)).size≤8002:=by have h1:=D0s (V0 I.V x.a);omega
      clear hbd
      go_upto_region 16 with (go_at_call 66;refine (F0e (V0 I.V x.a) _ (by omega)).mono ?_;rintro e w8 ⟨rfl,hq⟩;have HXY:Hid (A0 wr w8):=HXZ.out.trans_ (A0.trans_ eX hq);clear hq)
      clear n0 n1 n2 n3 c0;have n0:=HXY.out.cell_ N0.out;have n1:=HXY.out.cell_ N1.out;have n2:=HXY.out.cell_ N2.out;have n3:=HXY.out.cell_ N3.out;have c0:=HXY.out.cell_ C0.out;rw[e1] at n1;generalize hz:(y++(⟨#[32]⟩:ByteArray))++A5n (V0 I.V x.a)=z at *
      have hzz:z.size≤y.size+9000:=by rw[←hz];simp only[ByteArray.size_append];omega
      have HZ:=Hz (HBD.out);clear hz hts htt;go_wp2;refine wp_loop_rounds 1 ?_;rw[rounds_succ];go_wp2
      go_roundg r
      case measure=>omega
      case rel=>exact⟨k+1,z++⟨#[10]⟩,by have:=HK.out;omega,by go_num,rfl,by rw[ByteArray.size_append];have:=HYZ.out;omega,by have h:=HS3.out;rw[HZ.out] at h;exact h,hE.out.trans_ (HXY.out.trans_ eX)⟩
     have hk2b:(kd==2)=false:=by simpa using hk2
     have hk8:8≤kd:=by
      rcases HROx.out.kind with q|q|q<;>rw[HKD.out] at q
      ·exact absurd q hk1
      ·exact absurd q hk2
      ·exact q
     have e1:A2f X I.V x.a=.slice (some ⟨X.fl x.a,0,none⟩) x.n x.n:=by
      unfold A2f;rw[if_neg (by rw[←HXW.out,HKD.out];omega),HXN.out]
     have HK8:Hid (8≤B3 (A6 I.V x.a)):=by unfold Hid;rw[←HXW.out,HKD.out];exact hk8
     have HRB:Hid (D2 (B3 x.w)=false):=by unfold Hid D2;rw[HKD.out];exact decide_eq_false (by omega)
     have hbd:Q9 I.V l x y=A1f l kd (K8 I.V x) y:=by unfold Q9;rw[HKD.out,if_neg hk1,if_neg hk2]
     have HBD:=Hz hbd;have HE1:=Hz e1;clear hbd e1 n1 n2 n3
     go_upto_region 17 with fail
     clear n0 c0
     go_loopg [7,4] (x.n) (fun r3 i out wr3=>∃ (j:Nat) (t:ByteArray),j+r3=x.n∧i=.int .i64 (j:Int)∧out=.string t∧t.size≤y.size+40*j∧Hid (t=A1f l kd ((K8 I.V x).take j) y)∧Hid (A0 w1 wr3))
     case atStart=>exact⟨0,y,by omega,rfl,rfl,Nat.le_refl _,rfl,hE.out.trans_ (HXZ.out.trans_ eX)⟩
     case round =>
      obtain⟨j,t,hj,rfl,rfl,htz,ht,hE3⟩:=hrel;have hm3:=HM.out.ext (HX1.out.trans_ hE3.out);have hnd:=hm3.node _ HG2.out;have n1:=hnd.flds;rw[HE1.out] at n1;obtain⟨ob3,oo3,hoa3,c3⟩:=(HRR.out.ext hE3.out) _ _ (B2h X.pl l k (by have:=HK.out;omega));injection hoa3 with hoa3;injection hoa3 with h9 h10;subst h9 h10;have c0':wr.cell? ⟨ob,oo+k,none⟩=some (.pointer (some ⟨X.pl x.a,0,none⟩)):=by rw[HLK.out (by have:=HK.out;omega)] at c3;exact c3
      clear c3 hm3
      cases gk with
      | succ r3 =>
       have hlt:j<x.n:=by omega
       have hltz2:(j:Int)<(x.n:Int):=by omega
       obtain⟨d0,d1,d2⟩:=hnd.fld HK8.out j (by rw[HXN.out];exact hlt);have hmemu:A6 I.V (x.a+1+j)∈K8 I.V x:=Zf.2 ⟨j,List.mem_range.2 hlt,rfl⟩;have hu:=C9c HW.out (HGT.out.ob x HXM.out) HRB.out _ hmemu;have hin:=HSF.out HRB.out _ hmemu;have hsn:=B6o (A1e l kd) y (K8 I.V x) j (by simp[K8];omega);have hge:(K8 I.V x)[j]'(by simp[K8];omega)=A6 I.V (x.a+1+j):=by simp[K8]
       rw[hge] at hsn;generalize A6 I.V (x.a+1+j)=u at *
       have htd:=A9x u l;have hfz:=C5h l kd t u;have f2:IntKind.i64.wrap ((j:Int)+1)=((j+1:Nat):Int):=by rw[Za _ (by omega)];omega
       have HU:=Hz hu;have HIN:=Hz hin;have HJ:=Hz hj;have HSN:=Hz hsn;have HTZ:=Hz htz;have htz2:t.size≤3000000000000000:=by omega
       clear hnd hu hin hj hsn hge hmemu hlt htz
       go_wp2_with (go_at_call 64;refine (C4i HM.out (HX1.out.trans_ (hE3.out.trans_ eX)) HW.out hl HU.out (some ⟨ob,oo,none⟩) rc l HGT.out (HRR.out.ext (hE3.out.trans_ eX)) HIN.out).mono ?_;rintro e w9 ⟨rfl,hq⟩;have HX9:Hid (A0 w1 w9):=hE3.out.trans_ (A0.trans_ eX hq);clear hq)
       go_roundg r3
       case measure=>omega
       case rel =>
        refine⟨j+1,A1e l kd t u,by have:=HJ.out;omega,by go_num,by unfold A1e;rw[if_neg (show ¬kd<8 by omega)],by have:=HTZ.out;omega,?_,HX9.out.trans_ eX⟩;show _=_;have h1:=HSN.out;unfold A1f at ht ⊢;rw[h1,←ht.out]
      | zero =>
       obtain rfl:j=x.n:=by omega
       have hltz2:¬((x.n:Nat):Int)<(x.n:Int):=by omega
       have ht':t=Q9 I.V l x y:=by
        have:=ht.out;rw[Zg (by simp[K8])] at this;rw[HBD.out];exact this
       have HT':=Hz ht';have HTZ:=Hz htz;have htz2:t.size≤3000000000000000:=by omega
       clear ht ht' hj hnd htz;go_wp2
       go_roundg r
       case measure=>omega
       case rel =>
        refine⟨k+1,t++⟨#[10]⟩,by have:=HK.out;omega,by go_num,rfl,by rw[ByteArray.size_append];have h1:=HTZ.out;have h2:=HYZ.out;omega,?_,hE3.out.trans_ eX⟩;have h:=HS3.out;rw[←HT'.out] at h;exact h
    | zero =>
     obtain rfl:k=l.length:=by omega
     have hltz:¬((l.length:Nat):Int)<(l.length:Int):=by omega
     have hgs:s=sh:=by
      have h:=hS.out;rw[List.drop_length,V6] at h;exact h
     subst hgs;clear hk hsz hS;go_wp2;go_ret;exact⟨rfl,HX1.out.trans_ hE.out⟩
def E8 (nm:ByteArray):AK :=
 if nm=⟨#[105,110,116]⟩ then .int else
 if nm=⟨#[99,111,110,115,116]⟩ then .const else
 if nm=⟨#[116,101,120,116]⟩ then .text else
 if nm=⟨#[109,97,107,101]⟩ then .make else
 if nm=⟨#[99,111,112,121]⟩ then .copy else
 if nm=⟨#[103,101,116]⟩ then .get else
 if nm=⟨#[112,117,116]⟩ then .put else
 if nm=⟨#[109,105,110,111,114]⟩ then .minor else
 if nm=⟨#[109,97,106,111,114]⟩ then .major else
 if nm=⟨#[115,101,114,105,97,108]⟩ then .serial else
 if nm=⟨#[119,101,97,107]⟩ then .weak else
 if nm=⟨#[108,111,111,107]⟩ then .look else
 .other
def V4 (n:Int) (is:Bool) (v:Value):Value:=.tuple #[.int .i64 n,.bool is,v]
theorem A5q.n0 {I:B4} {nx old:Int} {M:A7} {ak:AK} {x:E4} {c n:Int} {is:Bool} {I':B4} {nx':Int} {M':A7} (h:A5q I nx old M ak x c n is I' nx' M') (hk:A8n I nx ak x=0):n=0:=by
 rcases h.res with⟨-,-,q,-⟩|⟨-,q,-⟩
 ·rw[q,hk]
 ·exact q
section
variable {B hb mb:Nat} {M:A7} {S:C8} {E:Nat→Addr} {ten nx old:Int} {R k:Nat} {w:World} {I:B4}
variable (hO:E7 w B hb mb M S ten nx) (hA:AI M nx old R k) (hE:G4 E w) (ht:0≤ten∧ten≤15) (hB:GB B) (hH:Holds I M) (hl:I.V.length≤1000000000) (hwp0:∀ i,i<I.weak.length→∃ a:Nat,B6 (I.weak.getD i 0)=(a:Int))
include hO hA hE ht hB hH hl hwp0 in
theorem D4k (x:E4) (hab:F0 x.a∧F0 x.b∧F0 x.c) (hk:k≤1000) :
  Calls Zh 27 #[.pointer (some ⟨hb,0,none⟩),.agg #[.string ⟨#[105,110,116]⟩,.int .i64 x.a,.int .i64 x.b,.int .i64 x.c,.int .i64 x.n,.string x.s]] w (U0 w B hb mb S E ten old R k I nx M .int x V4):=by
 have HH:=Hz hO;have HA:=Hz hA;have HE:=Hz hE;have HB:=Hz hB;have HHo:=Hz hH;have hwp:=Hz hwp0;clear hO hA hE hB hH hwp0
 go_enter Tryz.func27,Tryz.ntmps27
 go_wp2_with (go_at_call 15;refine (C7c (hO:=HH.out.ext ((A0.refl w).alloc_ _)) (hE:=HE.out.ext ((A0.refl w).alloc_ _)) (hB:=HB.out) (hA:=HA.out) (ht:=ht) (hH:=HHo.out) (hl:=hl) x hab.1).mono ?_;rintro e w2 ⟨c,n,is,M2,S2,I2,nx2,he,h1,h2,h3,h4⟩;change e=.returned (F1 E c) at he;subst he;have H1:=Hz h1;have HS:=Hz ((D7.of_ext ((A0.refl w).alloc_ _)).trans_ h2);have H3:=Hz h3;have H4:=Hz h4;clear h1 h2 h3 h4)
 (try simp only[Exit.inBlock,Exit.then])
 go_ret3
 obtain rfl:n=0:=H4.out.n0 rfl;obtain rfl:is=false:=H4.out.plain (by simp);exact⟨_,_,_,M2,S2,I2,nx2,rfl,H1.out,HS.out,H3.out,H4.out⟩
include hO hA hE ht hB hH hl hwp0 in
theorem D4h (x:E4) (hab:F0 x.a∧F0 x.b∧F0 x.c) (hk:k≤1000) :
  Calls Zh 27 #[.pointer (some ⟨hb,0,none⟩),.agg #[.string ⟨#[99,111,110,115,116]⟩,.int .i64 x.a,.int .i64 x.b,.int .i64 x.c,.int .i64 x.n,.string x.s]] w (U0 w B hb mb S E ten old R k I nx M .const x V4):=by
 have HH:=Hz hO;have HA:=Hz hA;have HE:=Hz hE;have HB:=Hz hB;have HHo:=Hz hH;have hwp:=Hz hwp0;clear hO hA hE hB hH hwp0
 go_enter Tryz.func27,Tryz.ntmps27
 go_wp2_with (go_at_call 22;refine (C4q (hO:=HH.out.ext ((A0.refl w).alloc_ _)) (hE:=HE.out.ext ((A0.refl w).alloc_ _)) (hB:=HB.out) (hA:=HA.out) (ht:=ht) (hH:=HHo.out) (hl:=hl) x hab.1).mono ?_;rintro e w2 ⟨c,n,is,M2,S2,I2,nx2,he,h1,h2,h3,h4⟩;change e=.returned (F1 E c) at he;subst he;have H1:=Hz h1;have HS:=Hz ((D7.of_ext ((A0.refl w).alloc_ _)).trans_ h2);have H3:=Hz h3;have H4:=Hz h4;clear h1 h2 h3 h4)
 (try simp only[Exit.inBlock,Exit.then])
 go_ret3
 obtain rfl:n=0:=H4.out.n0 rfl;obtain rfl:is=false:=H4.out.plain (by simp);exact⟨_,_,_,M2,S2,I2,nx2,rfl,H1.out,HS.out,H3.out,H4.out⟩
include hO hA hE ht hB hH hl hwp0 in
theorem D4s (x:E4) (hab:F0 x.a∧F0 x.b∧F0 x.c) (hk:k≤1000) :
  Calls Zh 27 #[.pointer (some ⟨hb,0,none⟩),.agg #[.string ⟨#[116,101,120,116]⟩,.int .i64 x.a,.int .i64 x.b,.int .i64 x.c,.int .i64 x.n,.string x.s]] w (U0 w B hb mb S E ten old R k I nx M .text x V4):=by
 have HH:=Hz hO;have HA:=Hz hA;have HE:=Hz hE;have HB:=Hz hB;have HHo:=Hz hH;have hwp:=Hz hwp0;clear hO hA hE hB hH hwp0
 go_enter Tryz.func27,Tryz.ntmps27
 go_wp2_with (go_at_call 68;refine (F7e (hO:=HH.out.ext ((A0.refl w).alloc_ _)) (hE:=HE.out.ext ((A0.refl w).alloc_ _)) (hB:=HB.out) (hA:=HA.out) (ht:=ht) (hH:=HHo.out) (hl:=hl) x hab.1).mono ?_;rintro e w2 ⟨c,n,is,M2,S2,I2,nx2,he,h1,h2,h3,h4⟩;change e=.returned (F1 E c) at he;subst he;have H1:=Hz h1;have HS:=Hz ((D7.of_ext ((A0.refl w).alloc_ _)).trans_ h2);have H3:=Hz h3;have H4:=Hz h4;clear h1 h2 h3 h4)
 (try simp only[Exit.inBlock,Exit.then])
 go_ret3
 obtain rfl:n=0:=H4.out.n0 rfl;obtain rfl:is=false:=H4.out.plain (by simp);exact⟨_,_,_,M2,S2,I2,nx2,rfl,H1.out,HS.out,H3.out,H4.out⟩
include hO hA hE ht hB hH hl hwp0 in
theorem D4n (x:E4) (hab:F0 x.a∧F0 x.b∧F0 x.c) (hk:k≤1000) :
  Calls Zh 27 #[.pointer (some ⟨hb,0,none⟩),.agg #[.string ⟨#[109,97,107,101]⟩,.int .i64 x.a,.int .i64 x.b,.int .i64 x.c,.int .i64 x.n,.string x.s]] w (U0 w B hb mb S E ten old R k I nx M .make x V4):=by
 have HH:=Hz hO;have HA:=Hz hA;have HE:=Hz hE;have HB:=Hz hB;have HHo:=Hz hH;have hwp:=Hz hwp0;clear hO hA hE hB hH hwp0
 go_enter Tryz.func27,Tryz.ntmps27
 go_wp2_with (go_at_call 11;refine (C8h (hO:=HH.out.ext ((A0.refl w).alloc_ _)) (hE:=HE.out.ext ((A0.refl w).alloc_ _)) (hB:=HB.out) (hA:=HA.out) (ht:=ht) (hH:=HHo.out) (hl:=hl) x hab.1).mono ?_;rintro e w2 ⟨c,n,is,M2,S2,I2,nx2,he,h1,h2,h3,h4⟩;change e=.returned (F1 E c) at he;subst he;have H1:=Hz h1;have HS:=Hz ((D7.of_ext ((A0.refl w).alloc_ _)).trans_ h2);have H3:=Hz h3;have H4:=Hz h4;clear h1 h2 h3 h4)
 (try simp only[Exit.inBlock,Exit.then])
 go_ret3
 obtain rfl:n=0:=H4.out.n0 rfl;obtain rfl:is=false:=H4.out.plain (by simp);exact⟨_,_,_,M2,S2,I2,nx2,rfl,H1.out,HS.out,H3.out,H4.out⟩
include hO hA hE ht hB hH hl hwp0 in
theorem D4i (x:E4) (hab:F0 x.a∧F0 x.b∧F0 x.c) (hk:k≤1000) :
  Calls Zh 27 #[.pointer (some ⟨hb,0,none⟩),.agg #[.string ⟨#[99,111,112,121]⟩,.int .i64 x.a,.int .i64 x.b,.int .i64 x.c,.int .i64 x.n,.string x.s]] w (U0 w B hb mb S E ten old R k I nx M .copy x V4):=by
 have HH:=Hz hO;have HA:=Hz hA;have HE:=Hz hE;have HB:=Hz hB;have HHo:=Hz hH;have hwp:=Hz hwp0;clear hO hA hE hB hH hwp0
 go_enter Tryz.func27,Tryz.ntmps27
 go_wp2_with (go_at_call 21;refine (C4r (hO:=HH.out.ext ((A0.refl w).alloc_ _)) (hE:=HE.out.ext ((A0.refl w).alloc_ _)) (hB:=HB.out) (hA:=HA.out) (ht:=ht) (hH:=HHo.out) (hl:=hl) x hab.1 hab.2.1).mono ?_;rintro e w2 ⟨c,n,is,M2,S2,I2,nx2,he,h1,h2,h3,h4⟩;change e=.returned (F1 E c) at he;subst he;have H1:=Hz h1;have HS:=Hz ((D7.of_ext ((A0.refl w).alloc_ _)).trans_ h2);have H3:=Hz h3;have H4:=Hz h4;clear h1 h2 h3 h4)
 (try simp only[Exit.inBlock,Exit.then])
 go_ret3
 obtain rfl:n=0:=H4.out.n0 rfl;obtain rfl:is=false:=H4.out.plain (by simp);exact⟨_,_,_,M2,S2,I2,nx2,rfl,H1.out,HS.out,H3.out,H4.out⟩
include hO hA hE ht hB hH hl hwp0 in
theorem D4j (x:E4) (hab:F0 x.a∧F0 x.b∧F0 x.c) (hk:k≤1000) :
  Calls Zh 27 #[.pointer (some ⟨hb,0,none⟩),.agg #[.string ⟨#[103,101,116]⟩,.int .i64 x.a,.int .i64 x.b,.int .i64 x.c,.int .i64 x.n,.string x.s]] w (U0 w B hb mb S E ten old R k I nx M .get x V4):=by
 have HH:=Hz hO;have HA:=Hz hA;have HE:=Hz hE;have HB:=Hz hB;have HHo:=Hz hH;have hwp:=Hz hwp0;clear hO hA hE hB hH hwp0
 go_enter Tryz.func27,Tryz.ntmps27
 go_wp2_with (go_at_call 69;refine (E1h (hO:=HH.out.ext ((A0.refl w).alloc_ _)) (hE:=HE.out.ext ((A0.refl w).alloc_ _)) (hB:=HB.out) (hA:=HA.out) (ht:=ht) (hH:=HHo.out) (hl:=hl) x hab.1 hab.2.2).mono ?_;rintro e w2 ⟨c,n,is,M2,S2,I2,nx2,he,h1,h2,h3,h4⟩;change e=.returned (F1 E c) at he;subst he;have H1:=Hz h1;have HS:=Hz ((D7.of_ext ((A0.refl w).alloc_ _)).trans_ h2);have H3:=Hz h3;have H4:=Hz h4;clear h1 h2 h3 h4)
 (try simp only[Exit.inBlock,Exit.then])
 go_ret3
 obtain rfl:n=0:=H4.out.n0 rfl;obtain rfl:is=false:=H4.out.plain (by simp);exact⟨_,_,_,M2,S2,I2,nx2,rfl,H1.out,HS.out,H3.out,H4.out⟩
include hO hA hE ht hB hH hl hwp0 in
theorem D4q (x:E4) (hab:F0 x.a∧F0 x.b∧F0 x.c) (hk:k≤1000) :
  Calls Zh 27 #[.pointer (some ⟨hb,0,none⟩),.agg #[.string ⟨#[112,117,116]⟩,.int .i64 x.a,.int .i64 x.b,.int .i64 x.c,.int .i64 x.n,.string x.s]] w (U0 w B hb mb S E ten old R k I nx M .put x V4):=by
 have HH:=Hz hO;have HA:=Hz hA;have HE:=Hz hE;have HB:=Hz hB;have HHo:=Hz hH;have hwp:=Hz hwp0;clear hO hA hE hB hH hwp0
 go_enter Tryz.func27,Tryz.ntmps27
 go_wp2_with (go_at_call 16;refine (D0p (hO:=HH.out.ext ((A0.refl w).alloc_ _)) (hE:=HE.out.ext ((A0.refl w).alloc_ _)) (hB:=HB.out) (hA:=HA.out) (ht:=ht) (hH:=HHo.out) (hl:=hl) x hab.1 hab.2.2).mono ?_;rintro e w2 ⟨c,n,is,M2,S2,I2,nx2,he,h1,h2,h3,h4⟩;change e=.returned (F1 E c) at he;subst he;have H1:=Hz h1;have HS:=Hz ((D7.of_ext ((A0.refl w).alloc_ _)).trans_ h2);have H3:=Hz h3;have H4:=Hz h4;clear h1 h2 h3 h4)
 (try simp only[Exit.inBlock,Exit.then])
 go_ret3
 obtain rfl:n=0:=H4.out.n0 rfl;obtain rfl:is=false:=H4.out.plain (by simp);exact⟨_,_,_,M2,S2,I2,nx2,rfl,H1.out,HS.out,H3.out,H4.out⟩
include hO hA hE ht hB hH hl hwp0 in
theorem D4o (x:E4) (hab:F0 x.a∧F0 x.b∧F0 x.c) (hk:k≤1000) :
  Calls Zh 27 #[.pointer (some ⟨hb,0,none⟩),.agg #[.string ⟨#[109,105,110,111,114]⟩,.int .i64 x.a,.int .i64 x.b,.int .i64 x.c,.int .i64 x.n,.string x.s]] w (U0 w B hb mb S E ten old R k I nx M .minor x V4):=by
 have HH:=Hz hO;have HA:=Hz hA;have HE:=Hz hE;have HB:=Hz hB;have HHo:=Hz hH;have hwp:=Hz hwp0;clear hO hA hE hB hH hwp0
 go_enter Tryz.func27,Tryz.ntmps27
 go_wp2_with (go_at_call 12;refine (E6e (hO:=HH.out.ext ((A0.refl w).alloc_ _)) (hE:=HE.out.ext ((A0.refl w).alloc_ _)) (hB:=HB.out) (hA:=HA.out) (ht:=ht) (hH:=HHo.out) (hl:=hl) x).mono ?_;rintro e w2 ⟨c,n,is,M2,S2,I2,nx2,he,h1,h2,h3,h4⟩;change e=.returned (F1 E c) at he;subst he;have H1:=Hz h1;have HS:=Hz ((D7.of_ext ((A0.refl w).alloc_ _)).trans_ h2);have H3:=Hz h3;have H4:=Hz h4;clear h1 h2 h3 h4)
 (try simp only[Exit.inBlock,Exit.then])
 go_ret3
 obtain rfl:n=0:=H4.out.n0 rfl;obtain rfl:is=false:=H4.out.plain (by simp);exact⟨_,_,_,M2,S2,I2,nx2,rfl,H1.out,HS.out,H3.out,H4.out⟩
include hO hA hE ht hB hH hl hwp0 in
theorem D4m (x:E4) (hab:F0 x.a∧F0 x.b∧F0 x.c) (hk:k≤1000) :
  Calls Zh 27 #[.pointer (some ⟨hb,0,none⟩),.agg #[.string ⟨#[109,97,106,111,114]⟩,.int .i64 x.a,.int .i64 x.b,.int .i64 x.c,.int .i64 x.n,.string x.s]] w (U0 w B hb mb S E ten old R k I nx M .major x V4):=by
 have HH:=Hz hO;have HA:=Hz hA;have HE:=Hz hE;have HB:=Hz hB;have HHo:=Hz hH;have hwp:=Hz hwp0;clear hO hA hE hB hH hwp0
 go_enter Tryz.func27,Tryz.ntmps27
 go_wp2_with (go_at_call 13;refine (C8g (hO:=HH.out.ext ((A0.refl w).alloc_ _)) (hE:=HE.out.ext ((A0.refl w).alloc_ _)) (hB:=HB.out) (hA:=HA.out) (ht:=ht) (hH:=HHo.out) (hl:=hl) x).mono ?_;rintro e w2 ⟨c,n,is,M2,S2,I2,nx2,he,h1,h2,h3,h4⟩;change e=.returned (F1 E c) at he;subst he;have H1:=Hz h1;have HS:=Hz ((D7.of_ext ((A0.refl w).alloc_ _)).trans_ h2);have H3:=Hz h3;have H4:=Hz h4;clear h1 h2 h3 h4)
 (try simp only[Exit.inBlock,Exit.then])
 go_ret3
 obtain rfl:n=0:=H4.out.n0 rfl;obtain rfl:is=false:=H4.out.plain (by simp);exact⟨_,_,_,M2,S2,I2,nx2,rfl,H1.out,HS.out,H3.out,H4.out⟩
include hO hA hE ht hB hH hl hwp0 in
theorem D4r (x:E4) (hab:F0 x.a∧F0 x.b∧F0 x.c) (hk:k≤1000) :
  Calls Zh 27 #[.pointer (some ⟨hb,0,none⟩),.agg #[.string ⟨#[115,101,114,105,97,108]⟩,.int .i64 x.a,.int .i64 x.b,.int .i64 x.c,.int .i64 x.n,.string x.s]] w (U0 w B hb mb S E ten old R k I nx M .serial x V4):=by
 have HH:=Hz hO;have HA:=Hz hA;have HE:=Hz hE;have HB:=Hz hB;have HHo:=Hz hH;have hwp:=Hz hwp0;clear hO hA hE hB hH hwp0
 go_enter Tryz.func27,Tryz.ntmps27
 go_wp2_with (go_at_call 14;refine (F1e (hO:=HH.out.ext ((A0.refl w).alloc_ _)) (hE:=HE.out.ext ((A0.refl w).alloc_ _)) (hB:=HB.out) (hA:=HA.out) (ht:=ht) (hH:=HHo.out) (hl:=hl) x hab.1 hk).mono ?_;rintro e w2 ⟨c,n,is,M2,S2,I2,nx2,he,h1,h2,h3,h4⟩;change e=.returned (.tuple #[.int .i64 n,F1 E c]) at he;subst he;have H1:=Hz h1;have HS:=Hz ((D7.of_ext ((A0.refl w).alloc_ _)).trans_ h2);have H3:=Hz h3;have H4:=Hz h4;clear h1 h2 h3 h4)
 (try simp only[Exit.inBlock,Exit.then])
 go_ret3
 obtain rfl:is=false:=H4.out.plain (by simp);exact⟨_,_,_,M2,S2,I2,nx2,rfl,H1.out,HS.out,H3.out,H4.out⟩
include hO hA hE ht hB hH hl hwp0 in
theorem D4t (x:E4) (hab:F0 x.a∧F0 x.b∧F0 x.c) (hk:k≤1000) :
  Calls Zh 27 #[.pointer (some ⟨hb,0,none⟩),.agg #[.string ⟨#[119,101,97,107]⟩,.int .i64 x.a,.int .i64 x.b,.int .i64 x.c,.int .i64 x.n,.string x.s]] w (U0 w B hb mb S E ten old R k I nx M .weak x V4):=by
 have HH:=Hz hO;have HA:=Hz hA;have HE:=Hz hE;have HB:=Hz hB;have HHo:=Hz hH;have hwp:=Hz hwp0;clear hO hA hE hB hH hwp0
 go_enter Tryz.func27,Tryz.ntmps27
 go_wp2_with (go_at_call 70;refine (F8o (hO:=HH.out.ext ((A0.refl w).alloc_ _)) (hE:=HE.out.ext ((A0.refl w).alloc_ _)) (hB:=HB.out) (hA:=HA.out) (ht:=ht) (hH:=HHo.out) (hl:=hl) x hab.1 hk).mono ?_;rintro e w2 ⟨c,n,is,M2,S2,I2,nx2,he,h1,h2,h3,h4⟩;change e=.returned (.tuple #[.int .i64 n,F1 E c]) at he;subst he;have H1:=Hz h1;have HS:=Hz ((D7.of_ext ((A0.refl w).alloc_ _)).trans_ h2);have H3:=Hz h3;have H4:=Hz h4;clear h1 h2 h3 h4)
 (try simp only[Exit.inBlock,Exit.then])
 go_ret3
 obtain rfl:is=false:=H4.out.plain (by simp);exact⟨_,_,_,M2,S2,I2,nx2,rfl,H1.out,HS.out,H3.out,H4.out⟩
include hO hA hE ht hB hH hl hwp0 in
theorem D4l (x:E4) (hab:F0 x.a∧F0 x.b∧F0 x.c) (hk:k≤1000) :
  Calls Zh 27 #[.pointer (some ⟨hb,0,none⟩),.agg #[.string ⟨#[108,111,111,107]⟩,.int .i64 x.a,.int .i64 x.b,.int .i64 x.c,.int .i64 x.n,.string x.s]] w (U0 w B hb mb S E ten old R k I nx M .look x V4):=by
 have HH:=Hz hO;have HA:=Hz hA;have HE:=Hz hE;have HB:=Hz hB;have HHo:=Hz hH;have hwp:=Hz hwp0;clear hO hA hE hB hH hwp0
 go_enter Tryz.func27,Tryz.ntmps27
 go_wp2_with (go_at_call 71;refine (E5f (hO:=HH.out.ext ((A0.refl w).alloc_ _)) (hE:=HE.out.ext ((A0.refl w).alloc_ _)) (hB:=HB.out) (hA:=HA.out) (ht:=ht) (hH:=HHo.out) (hl:=hl) x hab.2.1 hwp.out).mono ?_;rintro e w2 ⟨c,n,is,M2,S2,I2,nx2,he,h1,h2,h3,h4⟩;change e=.returned (.tuple #[.bool is,F1 E c]) at he;subst he;have H1:=Hz h1;have HS:=Hz ((D7.of_ext ((A0.refl w).alloc_ _)).trans_ h2);have H3:=Hz h3;have H4:=Hz h4;clear h1 h2 h3 h4)
 (try simp only[Exit.inBlock,Exit.then])
 go_ret3
 obtain rfl:n=0:=H4.out.n0 rfl;exact⟨_,_,_,M2,S2,I2,nx2,rfl,H1.out,HS.out,H3.out,H4.out⟩
include hO hA hH in
theorem D4p (x:E4) (n0:(x.nm.toList==[105,110,116])=false) (n1:(x.nm.toList==[99,111,110,115,116])=false) (n2:(x.nm.toList==[116,101,120,116])=false) (n3:(x.nm.toList==[109,97,107,101])=false) (n4:(x.nm.toList==[99,111,112,121])=false) (n5:(x.nm.toList==[103,101,116])=false) (n6:(x.nm.toList==[112,117,116])=false) (n7:(x.nm.toList==[109,105,110,111,114])=false) (n8:(x.nm.toList==[109,97,106,111,114])=false) (n9:(x.nm.toList==[115,101,114,105,97,108])=false) (n10:(x.nm.toList==[119,101,97,107])=false) (n11:(x.nm.toList==[108,111,111,107])=false) :
  Calls Zh 27 #[.pointer (some ⟨hb,0,none⟩),.agg #[.string x.nm,.int .i64 x.a,.int .i64 x.b,.int .i64 x.c,.int .i64 x.n,.string x.s]] w (U0 w B hb mb S E ten old R k I nx M .other x V4):=by
 have HH:=Hz hO;have HA:=Hz hA;have HHo:=Hz hH;clear hO hA hH
 go_enter Tryz.func27,Tryz.ntmps27
 go_wp2
 (try simp only[Exit.inBlock,Exit.then])
 go_ret3
 exact⟨0,0,false,M,S,I,nx,rfl,HH.out.ext ((A0.refl w).alloc_ _),D7.of_ext ((A0.refl w).alloc_ _),HA.out.self,HHo.out,J2.refl M,Or.inl ⟨rfl,rfl,rfl,rfl⟩,fun q=>(by cases q),fun q=>(by cases q),fun _=>rfl⟩
include hO hA hE ht hB hH hl hwp0 in
theorem C3w (x:E4) (hab:F0 x.a∧F0 x.b∧F0 x.c) (hk:k≤1000) :
  Calls Zh 27 #[.pointer (some ⟨hb,0,none⟩),.agg #[.string x.nm,.int .i64 x.a,.int .i64 x.b,.int .i64 x.c,.int .i64 x.n,.string x.s]] w (U0 w B hb mb S E ten old R k I nx M (E8 x.nm) x V4):=by
 by_cases n0:x.nm=⟨#[105,110,116]⟩
 ·rw[n0,show E8 ⟨#[105,110,116]⟩=.int from by rfl];exact D4k hO hA hE ht hB hH hl hwp0 x hab hk
 by_cases n1:x.nm=⟨#[99,111,110,115,116]⟩
 ·rw[n1,show E8 ⟨#[99,111,110,115,116]⟩=.const from by rfl];exact D4h hO hA hE ht hB hH hl hwp0 x hab hk
 by_cases n2:x.nm=⟨#[116,101,120,116]⟩
 ·rw[n2,show E8 ⟨#[116,101,120,116]⟩=.text from by rfl];exact D4s hO hA hE ht hB hH hl hwp0 x hab hk
 by_cases n3:x.nm=⟨#[109,97,107,101]⟩
 ·rw[n3,show E8 ⟨#[109,97,107,101]⟩=.make from by rfl];exact D4n hO hA hE ht hB hH hl hwp0 x hab hk
 by_cases n4:x.nm=⟨#[99,111,112,121]⟩
 ·rw[n4,show E8 ⟨#[99,111,112,121]⟩=.copy from by rfl];exact D4i hO hA hE ht hB hH hl hwp0 x hab hk
 by_cases n5:x.nm=⟨#[103,101,116]⟩
 ·rw[n5,show E8 ⟨#[103,101,116]⟩=.get from by rfl];exact D4j hO hA hE ht hB hH hl hwp0 x hab hk
 by_cases n6:x.nm=⟨#[112,117,116]⟩
 ·rw[n6,show E8 ⟨#[112,117,116]⟩=.put from by rfl];exact D4q hO hA hE ht hB hH hl hwp0 x hab hk
 by_cases n7:x.nm=⟨#[109,105,110,111,114]⟩
 ·rw[n7,show E8 ⟨#[109,105,110,111,114]⟩=.minor from by rfl];exact D4o hO hA hE ht hB hH hl hwp0 x hab hk
 by_cases n8:x.nm=⟨#[109,97,106,111,114]⟩
 ·rw[n8,show E8 ⟨#[109,97,106,111,114]⟩=.major from by rfl];exact D4m hO hA hE ht hB hH hl hwp0 x hab hk
 by_cases n9:x.nm=⟨#[115,101,114,105,97,108]⟩
 ·rw[n9,show E8 ⟨#[115,101,114,105,97,108]⟩=.serial from by rfl];exact D4r hO hA hE ht hB hH hl hwp0 x hab hk
 by_cases n10:x.nm=⟨#[119,101,97,107]⟩
 ·rw[n10,show E8 ⟨#[119,101,97,107]⟩=.weak from by rfl];exact D4t hO hA hE ht hB hH hl hwp0 x hab hk
 by_cases n11:x.nm=⟨#[108,111,111,107]⟩
 ·rw[n11,show E8 ⟨#[108,111,111,107]⟩=.look from by rfl];exact D4l hO hA hE ht hB hH hl hwp0 x hab hk
 have e:E8 x.nm=.other:=by unfold E8;rw[if_neg n0,if_neg n1,if_neg n2,if_neg n3,if_neg n4,if_neg n5,if_neg n6,if_neg n7,if_neg n8,if_neg n9,if_neg n10,if_neg n11]
 rw[e];exact D4p hO hA hH x (A3v n0) (A3v n1) (A3v n2) (A3v n3) (A3v n4) (A3v n5) (A3v n6) (A3v n7) (A3v n8) (A3v n9) (A3v n10) (A3v n11)
end
theorem E6n (w:World) (B:Nat) (I:B4) (nx:Int) (X:Q7) (hM:E9 w B I nx X) (r:Int) :
  Calls Zh 74 #[.pointer (some ⟨X.mb,0,none⟩),.int .i64 r] w fun e w'=>e=.returned (.bool (E5 I r))∧A0 w w':=by
 have q0:=hM.roots;clear hM;unfold E5;by_cases h:0≤r
 ·have hb:decide (0≤r)=true:=decide_eq_true h;rw[hb,Bool.true_and]
  go_enter Tryz.func74,Tryz.ntmps74
  go_wp2;go_ret;exact⟨rfl,by repeat (first|exact A0.refl _|(refine A0.drew_ ?_))⟩
 ·have hb:decide (0≤r)=false:=decide_eq_false h;rw[hb,Bool.false_and]
  go_enter Tryz.func74,Tryz.ntmps74
  go_wp2;go_ret;exact⟨rfl,by repeat (first|exact A0.refl _|(refine A0.drew_ ?_))⟩
theorem C1b (n:Int) (w:World):Calls Zh 52 #[.int .i64 n] w fun e w'=>e=.returned (.bool (U2 n))∧A0 w w':=by
 unfold U2;by_cases h:-2305843009213693952≤n
 ·have hb:decide (-2305843009213693952≤n)=true:=decide_eq_true h;rw[hb,Bool.true_and]
  go_enter Tryz.func52,Tryz.ntmps52
  go_wp2;go_ret;exact⟨rfl,by repeat (first|exact A0.refl _|(refine A0.drew_ ?_))⟩
 ·have hb:decide (-2305843009213693952≤n)=false:=decide_eq_false h;rw[hb,Bool.false_and]
  go_enter Tryz.func52,Tryz.ntmps52
  go_wp2;go_ret;exact⟨rfl,by repeat (first|exact A0.refl _|(refine A0.drew_ ?_))⟩
theorem F6s (l:List Ob) (k:Nat) (hk:k<l.length):(((l.take (k+1)).map fun o=>1+o.n)).sum=(((l.take k).map fun o=>1+o.n)).sum+(1+l[k].n):=by
 rw[List.take_add_one,Zd hk];simp only[Option.toList_some,List.map_append,List.sum_append,List.map_cons,List.map_nil,List.sum_cons,List.sum_nil];omega
theorem E6o (w:World) (B:Nat) (I:B4) (nx:Int) (X:Q7) (hM:E9 w B I nx X) (hw:D5 I) (hl:I.V.length≤1000000000) (hrl:I.roots.length≤1000000) :
  Calls Zh 31 #[.pointer (some ⟨X.mb,0,none⟩)] w fun e w'=>e=.returned (.int .i64 (A1w I:Int))∧A0 w w':=by
 have HM:=Hz hM;have HW:=Hz hw;have HGT:=Hz (A9i hw hl);have hll:=(A9i hw hl).len hw;have HLV:Hid (((K4 I).map fun o=>1+o.n).sum=A1w I):=rfl;have HRW:=Hz (C1r w B I nx X hM hw hl hrl);clear hM hw;generalize A1w I=lv at *
 generalize K4 I=l at *
 go_enter Tryz.func31,Tryz.ntmps31
 go_upto_region 4 with (go_at_call 63;refine HRW.out.mono ?_;rintro e w1 ⟨ra,rc,rfl,hO,hq⟩;have HX1:=Hz hq;have HRR:=Hz ((R4 hO).1);clear hq hO)
 clear HRW
 go_loopg [5,4] (l.length) (fun r i n wr=>∃ (k m:Nat),k+r=l.length∧i=.int .i64 (k:Int)∧n=.int .i64 (m:Int)∧m≤5000*k∧Hid (m=((l.take k).map fun o=>1+o.n).sum)∧Hid (A0 w1 wr))
 case atStart=>exact⟨0,0,by omega,rfl,rfl,Nat.zero_le _,rfl,A0.refl _⟩
 case round =>
  obtain⟨k,m,hk,rfl,rfl,hmz,hS,hE⟩:=hrel
  cases gk with
  | succ r =>
   have hlt:k<l.length:=by omega
   have hltz:(k:Int)<(l.length:Int):=by omega
   obtain⟨ob,oo,hoa,c00⟩:=(HRR.out.ext hE.out) _ _ (B2h X.pl l k hlt);subst hoa;have hmem:l[k]∈l:=Ze hlt;obtain⟨g1,g2⟩:=HGT.out.ob _ hmem;have hMr:=HM.out.ext (HX1.out.trans_ hE.out);have hnd:=hMr.node _ g2;have hsn:=F6s l k hlt;obtain⟨x,hxx⟩:∃ x,l[k]=x:=⟨_,rfl⟩;rw[hxx] at hmem g1 g2 hnd hsn;have c0:wr.cell? ⟨ob,oo+k,none⟩=some (.pointer (some ⟨X.pl x.a,0,none⟩)):=by rw[←hxx];exact c00
   clear hxx c00;have hxw:x.w=A6 I.V x.a:=by rw[g1];rfl
   have hxn:A9 I.V x.a=x.n:=by unfold A9 Ob.n;rw[hxw]
   have hhd:=HW.out.head _ g2;have hro:A2s I.V x:=by rw[g1];exact hhd.raw
   have hn4:x.n≤4096:=by
    obtain⟨kd,n,e,hk1,hn⟩:=hhd.hd;obtain⟨d1,d2,d3,d4,d5⟩:=A1t kd 0 0 (n:Int) hk1 (by omega) (by omega) ⟨by omega,by omega⟩;unfold Ob.n;rw[hxw,e,d5];omega
   have n0:=hnd.kind;have n1:=hnd.flds;have n3:=hnd.str;unfold A2f at n1;rw[←hxw] at n0 n1 n3;rw[hxn] at n1;obtain⟨kd,hkd⟩:∃ kd,B3 x.w=kd:=⟨_,rfl⟩;have hone:=fun q:kd=1=>hro.one (hkd.trans q)
   have htwo:=fun q:kd=2=>hro.two (hkd.trans q)
   have hkk:=hro.kind;rw[hkd] at n0 n1 n3 hkk;have hts:=B8k I.V x.a;have f1:IntKind.i64.wrap ((k:Int)+1)=((k+1:Nat):Int):=by rw[Za _ (by omega)];omega
   have HK:=Hz hk;have HSN:=Hz hsn;clear hk hsn hmem g1 g2 hMr hnd hxw hxn hhd hro hkd hlt;by_cases hk1:kd=1
   ·subst hk1;have h1:=hone rfl;have f2:IntKind.i64.wrap ((m:Int)+2)=((m+2:Nat):Int):=by rw[Za _ (by omega)];omega
    clear hone htwo n1 n3 hts hkk;go_wp2
    go_roundg r
    case measure=>omega
    case rel =>
     refine⟨k+1,m+2,by have:=HK.out;omega,by go_num,by go_num,by omega,?_,hE.out.trans_ eX⟩;show _=_;rw[HSN.out,←hS.out,h1]
   ·by_cases hk2:kd=2
    ·subst hk2;obtain⟨t1,t2,t3⟩:=htwo rfl;rw[if_pos rfl] at n3;have hb:((2:Int)==1)=false:=rfl;generalize hss:V0 I.V x.a=s at *
     have hsz:s.size≤2000:=by omega
     have f3:IntKind.i64.wrap ((s.size:Int)+7)=(s.size:Int)+7:=Za _ (by omega);have f4:((s.size:Int)+7).tdiv 8=((s.size:Int)+7)/8:=Int.tdiv_eq_ediv_of_nonneg (by omega);obtain⟨q,hq⟩:∃ q:Nat,(s.size+7)/8=q:=⟨_,rfl⟩;have hqz:((s.size:Int)+7)/8=(q:Int):=by omega
     rw[hqz] at f4;have f5:IntKind.i64.wrap (q:Int)=(q:Int):=Za _ (by omega);have f2:IntKind.i64.wrap ((m:Int)+2)=(m:Int)+2:=Za _ (by omega);have f6:IntKind.i64.wrap ((m:Int)+2+(q:Int))=((m+2+q:Nat):Int):=by rw[Za _ (by omega)];omega
     have HX:Hid (x.n=1+q):=by unfold Hid;omega
     have hq3:q≤300:=by omega
     clear hone htwo n1 hts hkk hss hqz hq t1 t2 t3 hk1;go_wp2
     go_roundg r
     case measure=>omega
     case rel =>
      refine⟨k+1,m+2+q,by have:=HK.out;omega,by go_num,by go_num,by omega,?_,hE.out.trans_ eX⟩;show _=_;rw[HSN.out,←hS.out,HX.out];omega
    ·have hb1:(kd==1)=false:=by simpa using hk1
     have hb2:(kd==2)=false:=by simpa using hk2
     have h8:¬kd<8:=by omega
     rw[if_neg h8] at n1;have f2:IntKind.i64.wrap ((m:Int)+1)=(m:Int)+1:=Za _ (by omega);have f6:IntKind.i64.wrap ((m:Int)+1+(x.n:Int))=((m+1+x.n:Nat):Int):=by rw[Za _ (by omega)];omega
     clear hone htwo n3 hts hkk;go_wp2
     go_roundg r
     case measure=>omega
     case rel =>
      refine⟨k+1,m+1+x.n,by have:=HK.out;omega,by go_num,by go_num,by omega,?_,hE.out.trans_ eX⟩;show _=_;rw[HSN.out,←hS.out];omega
  | zero =>
   obtain rfl:k=l.length:=by omega
   have hltz:¬((l.length:Nat):Int)<(l.length:Int):=by omega
   have hS':m=lv:=by have:=hS.out;rw[List.take_length,HLV.out] at this;exact this
   subst hS';clear hk hS;go_wp2;go_ret;exact⟨rfl,HX1.out.trans_ hE.out⟩
end Go.Proofs.YtelhoppfidibiaaGreatDoor
