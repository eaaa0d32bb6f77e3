/- The document's Quoted; Decimal of any int. -/
import Derived.Test.YtelhoppfidibiaaGreatDoorJUp02
import Derived.Test.YtelhoppfidibiaaGreatDoorJUp01
import Derived.Test.YtelhoppfidibiaaGreatDoorJTa20
import Derived.Test.YtelhoppfidibiaaGreatDoorJTa35
import Derived.Test.YtelhoppfidibiaaGreatDoorJTa38
import Derived.Test.YtelhoppfidibiaaGreatDoorJUa01
import Derived.Test.YtelhoppfidibiaaGreatDoorJTa39
import Derived.Deep.RegionHeld3
import Derived.Test.YtelhoppfidibiaaGreatDoorJTa41
import Derived.BigRegion
import Derived.Deep.RegionLaw
set_option linter.unusedSimpArgs false
set_option linter.unusedVariables false
set_option maxHeartbeats 8000000
set_option maxRecDepth 100000
namespace Go.Proofs.YtelhoppfidibiaaGreatDoor
open Go.RowKit
theorem decimal_all (n:Int) (h0:-9223372036854775808≤n) (h1:n≤9223372036854775807) (w:World):Calls Tryz.prog 65 #[.int .i64 n] w fun e w'=>e=.returned (.string (decS n))∧Ext w w':=by
 unfold decS
 by_cases hq:n<0
 ·rw[if_pos hq]
  have hz:=belowS_size 20 n
  go_enter Tryz.func65,Tryz.ntmps65
  go_wp2_with (go_at_call 121;refine (below_any 20 n (by omega) (by omega) (by omega) (by omega) _).mono ?_;rintro e w1 ⟨rfl,hq1⟩;have HX1:=Lib.hid hq1;clear hq1)
  go_ret
  exact⟨rfl,HX1.out⟩
 ·rw[if_neg hq]
  have e1:IntKind.i64.wrap (-n)=-n:=IntWalk.i64_in _ (by omega)
  go_enter Tryz.func65,Tryz.ntmps65
  go_wp2_with (go_at_call 121;refine (below_any 20 (-n) (by omega) (by omega) (by omega) (by omega) _).mono ?_;rintro e w1 ⟨rfl,hq1⟩;have HX1:=Lib.hid hq1;clear hq1)
  go_ret
  exact⟨rfl,HX1.out⟩
def quoS (l:List UInt8):ByteArray:=⟨(34::quotesP l).toArray⟩
theorem quoS_add (l m:List UInt8):(⟨(34::(quotesP l++m)).toArray⟩:ByteArray)=quoS l++⟨m.toArray⟩:=by
 unfold quoS
 rw[ba_app];rfl
theorem quoS_size (l:List UInt8):(quoS l).size≤4*l.length+1:=by
 have:=quotesP_len l
 show (34::quotesP l).toArray.size≤_
 simp only[List.size_toArray,List.length_cons]
 omega
theorem quoS_snoc (s:ByteArray) (k:Nat) (hk:k<s.size):quoS (s.data.toList.take (k+1))=quoS (s.data.toList.take k)++⟨(quote1 s[k]).toArray⟩:=by
 have hl:k<s.data.toList.length:=by simpa using hk
 have:=quotesP_snoc s.data.toList k hl
 have e:s.data.toList[k]=s[k]:=rfl
 rw[e] at this
 show (⟨(34::quotesP (s.data.toList.take (k+1))).toArray⟩:ByteArray)=_
 rw[this,quoS_add]
theorem bytes_c (c:UInt8):byteS (c.toNat:Int)=⟨[c].toArray⟩:=byteS_of (by have:=c.toNat_lt;omega)
theorem byte92:byteS 92=⟨[92].toArray⟩:=byteS_of (by decide)
theorem app2 (o:ByteArray) (a b:List UInt8):(o++⟨a.toArray⟩)++⟨b.toArray⟩=o++⟨(a++b).toArray⟩:=by
 rw[ByteArray.append_assoc,ba_app a b]
theorem hex_part:∀ v:Fin 16,hexLit.extract v.val (v.val+1)=⟨[hexDigP v.val].toArray⟩:=by decide +kernel
theorem hex_cut (v:Nat) (hv:v<16) (n m:Int) (hn:n=(v:Int)) (hm:m=(v:Int)+1) (W:World):(Instr.slice 9 (.string ⟨#[48,49,50,51,52,53,54,55,56,57,97,98,99,100,101,102]⟩) (some (.int .i64 n)) (some (.int .i64 m)) none).run Tryz.prog W=.ok (.string ⟨[hexDigP v].toArray⟩) W:=by
 have:=run_slice_string (P:=Tryz.prog) W 9 hexLit .i64 .i64 n m (by kernel_rfl) (by omega) (by omega) (by show m≤(16:Nat);omega)
 rw[this]
 congr 2
 have e1:n.toNat=v:=by omega
 have e2:m.toNat=v+1:=by omega
 rw[e1,e2]
 exact hex_part ⟨v,hv⟩
theorem byte_lt (c:UInt8):c.toNat<256:=c.toNat_lt
theorem quotedR_any (s:ByteArray) (w:World) (hs:s.size≤17592186044416) :
  Calls Tryz.prog 66 #[.string s] w fun e w'=>e=.returned (.string (quotedP s))∧Ext w w':=by
 go_enter Tryz.func66,Tryz.ntmps66
 go_upto_region 4 with fail
 go_loopg [4,5] (s.size) (fun r o i wr=>∃ (k:Nat) (q:ByteArray),k+r=s.size∧o=.string q∧i=.int .i64 (k:Int)∧Hid (q=quoS (s.data.toList.take k))∧q.size≤4*k+1∧Hid (Ext w wr))
 case atStart=>exact⟨0,⟨#[34]⟩,by omega,rfl,rfl,rfl,Nat.le_refl _,Ext.refl _⟩
 case round =>
  obtain⟨k,q,hk,rfl,rfl,hq,hqz,hE⟩:=hrel
  cases gk with
  | succ r =>
   have hlt:k<s.size:=by omega
   have hltz:(k:Int)<(s.size:Int):=by omega
   have hsn:=quoS_snoc s k hlt
   rw[←hq.out] at hsn
   have hq2:(quoS (s.data.toList.take (k+1))).size≤4*(k+1)+1:=by
    have:=quoS_size (s.data.toList.take (k+1))
    have h2:(s.data.toList.take (k+1)).length≤k+1:=by simp;omega
    omega
   have HQ2:=Lib.hid hq2
   have HK:=Lib.hid hk
   have hcb:=byte_lt s[k]
   have hz92:=byteS_size 92
   have hzc:=byteS_size (s[k].toNat:Int)
   have HC:=Lib.hid (bytes_c s[k])
   have HSN:Hid (∀ m,quote1 s[k]=m→quoS (s.data.toList.take (k+1))=q++⟨m.toArray⟩):=fun m hm=>by rw[hsn,hm]
   have HQ1:Hid (∀ x:UInt8,s[k]=x→quote1 s[k]=quote1 x):=fun x hx=>by rw[hx]
   clear hk hsn hq2 hq
   generalize hc:s[k]=c at *
   have hci:Hid (s[k]=c):=hc
   have e0:((s[k]).toNat:Int)=(c.toNat:Int):=by rw[hc]
   clear hc
   by_cases c10:c.toNat=10
   ·have z10:((c.toNat:Int)==10)=true:=by simp;omega
    have hm:=HSN.out [92,110] (by unfold quote1;rw[if_pos c10])
    have HM:=Lib.hid hm
    clear hm c10
    go_wp2_with (go_at_call 122;refine (byte_any _ _).mono ?_;rintro e w1 ⟨rfl,hq1⟩;have HB:=Lib.hid hq1;clear hq1)
    go_roundg r
    case measure=>omega
    case rel =>
     have hqe:(q++byteS 92)++(⟨#[110]⟩:ByteArray)=quoS (s.data.toList.take (k+1)):=by rw[HM.out,byte92,show (⟨#[110]⟩:ByteArray)=⟨[110].toArray⟩ from rfl,app2];rfl
     exact⟨k+1,_,by have:=HK.out;omega,rfl,by go_num,hqe,by rw[hqe];exact HQ2.out,hE.out.trans_ HB.out⟩
   have z10:((c.toNat:Int)==10)=false:=by simp;omega
   by_cases c34:c.toNat=34∨c.toNat=92
   ·have hm:=HSN.out [92,c] (by unfold quote1;rw[if_neg c10,if_pos c34])
    have HM:=Lib.hid hm
    clear hm c10
    by_cases d34:c.toNat=34
    ·have z34:((c.toNat:Int)==34)=true:=by simp;omega
     clear c34 d34
     go_wp2_with (first
      | (go_at_call 122;refine (byte_any 92 _).mono ?_;rintro e w1 ⟨rfl,hq1⟩;have HB0:=Lib.hid hq1;clear hq1)
      | (go_at_call 122;refine (byte_any (c.toNat:Int) _).mono ?_;rintro e w2 ⟨rfl,hq1⟩;have HB:=Lib.hid (HB0.out.trans_ hq1);clear hq1))
     go_roundg r
     case measure=>omega
     case rel =>
      have hqe:(q++byteS 92)++byteS (c.toNat:Int)=quoS (s.data.toList.take (k+1)):=by rw[HM.out,byte92,HC.out,app2];rfl
      exact⟨k+1,_,by have:=HK.out;omega,rfl,by go_num,hqe,by rw[hqe];exact HQ2.out,hE.out.trans_ HB.out⟩
    ·have z34:((c.toNat:Int)==34)=false:=by simp;omega
     have z92:((c.toNat:Int)==92)=true:=by simp;omega
     clear c34 d34
     go_wp2_with (first
      | (go_at_call 122;refine (byte_any 92 _).mono ?_;rintro e w1 ⟨rfl,hq1⟩;have HB0:=Lib.hid hq1;clear hq1)
      | (go_at_call 122;refine (byte_any (c.toNat:Int) _).mono ?_;rintro e w2 ⟨rfl,hq1⟩;have HB:=Lib.hid (HB0.out.trans_ hq1);clear hq1))
     go_roundg r
     case measure=>omega
     case rel =>
      have hqe:(q++byteS 92)++byteS (c.toNat:Int)=quoS (s.data.toList.take (k+1)):=by rw[HM.out,byte92,HC.out,app2];rfl
      exact⟨k+1,_,by have:=HK.out;omega,rfl,by go_num,hqe,by rw[hqe];exact HQ2.out,hE.out.trans_ HB.out⟩
   have z34:((c.toNat:Int)==34)=false:=by simp;omega
   have z92:((c.toNat:Int)==92)=false:=by simp;omega
   by_cases c32:c.toNat<32∨126<c.toNat
   ·have hm:=HSN.out [92,120,hexDigP (c.toNat/16),hexDigP (c.toNat%16)] (by unfold quote1;rw[if_neg c10,if_neg c34,if_pos c32])
    have HM:=Lib.hid hm
    have i1:∀ W:World,(Instr.slice 9 (.string ⟨#[48,49,50,51,52,53,54,55,56,57,97,98,99,100,101,102]⟩) (some (.int .i64 ((c.toNat:Int)/16))) (some (.int .i64 ((c.toNat:Int)/16+1))) none).run Tryz.prog W=.ok (.string ⟨[hexDigP (c.toNat/16)].toArray⟩) W:=fun W=>hex_cut (c.toNat/16) (by omega) _ _ (by omega) (by omega) W
    have i2:∀ W:World,(Instr.slice 9 (.string ⟨#[48,49,50,51,52,53,54,55,56,57,97,98,99,100,101,102]⟩) (some (.int .i64 ((c.toNat:Int)%16))) (some (.int .i64 ((c.toNat:Int)%16+1))) none).run Tryz.prog W=.ok (.string ⟨[hexDigP (c.toNat%16)].toArray⟩) W:=fun W=>hex_cut (c.toNat%16) (by omega) _ _ (by omega) (by omega) W
    have I1:=Lib.hid i1
    have I2:=Lib.hid i2
    have e1:IntKind.i64.wrap ((c.toNat:Int)/16+1)=(c.toNat:Int)/16+1:=IntWalk.i64_in _ (by omega)
    have e2:IntKind.i64.wrap ((c.toNat:Int)%16+1)=(c.toNat:Int)%16+1:=IntWalk.i64_in _ (by omega)
    have e3:IntKind.i64.wrap ((c.toNat:Int)/16)=(c.toNat:Int)/16:=IntWalk.i64_in _ (by omega)
    have e5:(c.toNat:Int).tdiv 16=(c.toNat:Int)/16:=Int.tdiv_eq_ediv_of_nonneg (by omega)
    have e6:(c.toNat:Int).tmod 16=(c.toNat:Int)%16:=Int.tmod_eq_emod_of_nonneg (by omega)
    generalize hexDigP (c.toNat/16)=h1 at *
    generalize hexDigP (c.toNat%16)=h2 at *
    have s1:(⟨[h1].toArray⟩:ByteArray).size=1:=rfl
    have s2:(⟨[h2].toArray⟩:ByteArray).size=1:=rfl
    generalize hb1:(⟨[h1].toArray⟩:ByteArray)=b1 at *
    generalize hb2:(⟨[h2].toArray⟩:ByteArray)=b2 at *
    have HB1:=Lib.hid hb1
    have HB2:=Lib.hid hb2
    clear hm c10 c34 i1 i2 hb1 hb2
    by_cases d32:c.toNat<32
    ·have z32:decide ((c.toNat:Int)<32)=true:=decide_eq_true (by omega)
     clear c32 d32
     go_upto_region 13 with fail
     have f1:¬9223372036854775807<q.size+1:=by omega
     have f2:¬9223372036854775807<q.size+1+1:=by omega
     have f3:¬9223372036854775807<q.size+1+1+1:=by omega
     have f4:¬9223372036854775807<q.size+1+1+1+1:=by omega
     have g1:¬maxLen<q.size+1:=by unfold maxLen;omega
     have g2:¬maxLen<q.size+1+1:=by unfold maxLen;omega
     have g3:¬maxLen<q.size+1+1+1:=by unfold maxLen;omega
     have g4:¬maxLen<q.size+1+1+1+1:=by unfold maxLen;omega
     refine wp_region_held_drew (S:=fun W=>True) (by kernel_rfl) ?_ (fun hHeld=>?_)
     ·trivial
     refine tk 0 ⟨some 48,_,_,_,_,_⟩ ?_ rfl ?_ ?_
     rotate_left
     ·(intro w hSw;(try dsimp only at hSw);go_simp;try with_reducible rfl)
     try simp only[tkS]
     refine tk 4 ⟨some 52,_,_,_,_,_⟩ ?_ rfl ?_ ?_
     rotate_left
     ·(intro w hSw;(try dsimp only at hSw);go_simp;try with_reducible rfl)
     try simp only[tkS]
     refine tk 5 ⟨some 53,_,_,_,_,_⟩ ?_ rfl ?_ ?_
     rotate_left
     ·(intro w hSw;(try dsimp only at hSw);go_simp;try with_reducible rfl)
     try simp only[tkS]
     refine tk 6 ⟨some 54,_,_,_,_,_⟩ ?_ rfl ?_ ?_
     rotate_left
     ·(intro w hSw;(try dsimp only at hSw);go_simp;try with_reducible rfl)
     try simp only[tkS]
     refine tk 7 ⟨some 55,_,_,_,_,_⟩ ?_ rfl ?_ ?_
     rotate_left
     ·(intro w hSw;(try dsimp only at hSw);go_simp;try with_reducible rfl)
     try simp only[tkS]
     refine tk 8 ⟨some 56,_,_,_,_,_⟩ ?_ rfl ?_ ?_
     rotate_left
     ·(intro w hSw;(try dsimp only at hSw);go_simp;try with_reducible rfl)
     try simp only[tkS]
     refine tk 9 ⟨some 57,_,_,_,_,_⟩ ?_ rfl ?_ ?_
     rotate_left
     ·(intro w hSw;(try dsimp only at hSw);go_simp;try with_reducible rfl)
     try simp only[tkS]
     refine tk 10 ⟨some 58,_,_,_,_,_⟩ ?_ rfl ?_ ?_
     rotate_left
     ·(intro w hSw;have hlk:=I1.out w;go_simp;try with_reducible rfl)
     try simp only[tkS]
     refine tk 12 ⟨some 60,_,_,_,_,_⟩ ?_ rfl ?_ ?_
     rotate_left
     ·(intro w hSw;(try dsimp only at hSw);go_simp;try with_reducible rfl)
     try simp only[tkS]
     refine tk 13 ⟨some 61,_,_,_,_,_⟩ ?_ rfl ?_ ?_
     rotate_left
     ·(intro w hSw;(try dsimp only at hSw);go_simp;try with_reducible rfl)
     try simp only[tkS]
     refine tk 14 ⟨some 62,_,_,_,_,_⟩ ?_ rfl ?_ ?_
     rotate_left
     ·(intro w hSw;(try dsimp only at hSw);go_simp;try with_reducible rfl)
     try simp only[tkS]
     refine tk 15 ⟨some 63,_,_,_,_,_⟩ ?_ rfl ?_ ?_
     rotate_left
     ·(intro w hSw;(try dsimp only at hSw);go_simp;try with_reducible rfl)
     try simp only[tkS]
     refine tk 16 ⟨some 64,_,_,_,_,_⟩ ?_ rfl ?_ ?_
     rotate_left
     ·(intro w hSw;(try dsimp only at hSw);go_simp;try with_reducible rfl)
     try simp only[tkS]
     refine tk 17 ⟨some 65,_,_,_,_,_⟩ ?_ rfl ?_ ?_
     rotate_left
     ·(intro w hSw;(try dsimp only at hSw);go_simp;try with_reducible rfl)
     try simp only[tkS]
     refine tk 18 ⟨some 66,_,_,_,_,_⟩ ?_ rfl ?_ ?_
     rotate_left
     ·(intro w hSw;have hlk:=I2.out w;go_simp;try with_reducible rfl)
     try simp only[tkS]
     refine wpAnyH_ready (rs:=[1]) (by kernel_rfl) (by simp) ?_
     refine AllReadyH.cons (o:=⟨some 49,_,_,_,_,_⟩) rfl (fun K hK=>?_) AllReadyH.nil
     go_simp
     refine (byte_any 92 _).mono ?_
     rintro e w1 ⟨rfl,hq1⟩
     have HB:Hid (Ext wr w1):=Ext.trans_ (by first|exact Ext.refl _|exact (Ext.refl _).drew_|exact (Ext.refl _).drewN_ _) hq1
     clear hq1
     refine hK.out _ _ ?_ (fun hHeld=>?_)
     ·(try dsimp only);first|done|trivial
     clear hK K
     try simp only[tkS]
     refine tk 2 ⟨some 50,_,_,_,_,_⟩ ?_ rfl ?_ ?_
     rotate_left
     ·(intro w hSw;(try dsimp only at hSw);go_simp;try with_reducible rfl)
     try simp only[tkS]
     refine tk 3 ⟨some 51,_,_,_,_,_⟩ ?_ rfl ?_ ?_
     rotate_left
     ·(intro w hSw;(try dsimp only at hSw);go_simp;try with_reducible rfl)
     try simp only[tkS]
     refine tk 11 ⟨some 59,_,_,_,_,_⟩ ?_ rfl ?_ ?_
     rotate_left
     ·(intro w hSw;(try dsimp only at hSw);go_simp;try with_reducible rfl)
     try simp only[tkS]
     refine tk 19 ⟨some 67,_,_,_,_,_⟩ ?_ rfl ?_ ?_
     rotate_left
     ·(intro w hSw;(try dsimp only at hSw);go_simp;try with_reducible rfl)
     try simp only[tkS]
     refine tk 20 ⟨some 4,_,_,_,_,_⟩ ?_ rfl ?_ ?_
     rotate_left
     ·(intro w hSw;(try dsimp only at hSw);go_simp;try with_reducible rfl)
     try simp only[tkS]
     refine wpAnyH_done (by kernel_rfl) ?_ _
     clear hHeld f1 f2 f3 f4 g1 g2 g3 g4
     go_wp2
     go_roundg r
     case measure=>omega
     case rel =>
      have hqe:(((q++byteS 92)++(⟨#[120]⟩:ByteArray))++b1)++b2=quoS (s.data.toList.take (k+1)):=by rw[HM.out,byte92,←HB1.out,←HB2.out,show (⟨#[120]⟩:ByteArray)=⟨[120].toArray⟩ from rfl,app2,app2,app2];rfl
      exact⟨k+1,_,by have:=HK.out;omega,rfl,by go_num,hqe,by rw[hqe];exact HQ2.out,hE.out.trans_ HB.out⟩
    ·have z32:decide ((c.toNat:Int)<32)=false:=decide_eq_false (by omega)
     have z126:decide (126<(c.toNat:Int))=true:=decide_eq_true (by omega)
     clear c32 d32
     go_upto_region 13 with fail
     have f1:¬9223372036854775807<q.size+1:=by omega
     have f2:¬9223372036854775807<q.size+1+1:=by omega
     have f3:¬9223372036854775807<q.size+1+1+1:=by omega
     have f4:¬9223372036854775807<q.size+1+1+1+1:=by omega
     have g1:¬maxLen<q.size+1:=by unfold maxLen;omega
     have g2:¬maxLen<q.size+1+1:=by unfold maxLen;omega
     have g3:¬maxLen<q.size+1+1+1:=by unfold maxLen;omega
     have g4:¬maxLen<q.size+1+1+1+1:=by unfold maxLen;omega
     refine wp_region_held_drew (S:=fun W=>True) (by kernel_rfl) ?_ (fun hHeld=>?_)
     ·trivial
     refine tk 0 ⟨some 48,_,_,_,_,_⟩ ?_ rfl ?_ ?_
     rotate_left
     ·(intro w hSw;(try dsimp only at hSw);go_simp;try with_reducible rfl)
     try simp only[tkS]
     refine tk 4 ⟨some 52,_,_,_,_,_⟩ ?_ rfl ?_ ?_
     rotate_left
     ·(intro w hSw;(try dsimp only at hSw);go_simp;try with_reducible rfl)
     try simp only[tkS]
     refine tk 5 ⟨some 53,_,_,_,_,_⟩ ?_ rfl ?_ ?_
     rotate_left
     ·(intro w hSw;(try dsimp only at hSw);go_simp;try with_reducible rfl)
     try simp only[tkS]
     refine tk 6 ⟨some 54,_,_,_,_,_⟩ ?_ rfl ?_ ?_
     rotate_left
     ·(intro w hSw;(try dsimp only at hSw);go_simp;try with_reducible rfl)
     try simp only[tkS]
     refine tk 7 ⟨some 55,_,_,_,_,_⟩ ?_ rfl ?_ ?_
     rotate_left
     ·(intro w hSw;(try dsimp only at hSw);go_simp;try with_reducible rfl)
     try simp only[tkS]
     refine tk 8 ⟨some 56,_,_,_,_,_⟩ ?_ rfl ?_ ?_
     rotate_left
     ·(intro w hSw;(try dsimp only at hSw);go_simp;try with_reducible rfl)
     try simp only[tkS]
     refine tk 9 ⟨some 57,_,_,_,_,_⟩ ?_ rfl ?_ ?_
     rotate_left
     ·(intro w hSw;(try dsimp only at hSw);go_simp;try with_reducible rfl)
     try simp only[tkS]
     refine tk 10 ⟨some 58,_,_,_,_,_⟩ ?_ rfl ?_ ?_
     rotate_left
     ·(intro w hSw;have hlk:=I1.out w;go_simp;try with_reducible rfl)
     try simp only[tkS]
     refine tk 12 ⟨some 60,_,_,_,_,_⟩ ?_ rfl ?_ ?_
     rotate_left
     ·(intro w hSw;(try dsimp only at hSw);go_simp;try with_reducible rfl)
     try simp only[tkS]
     refine tk 13 ⟨some 61,_,_,_,_,_⟩ ?_ rfl ?_ ?_
     rotate_left
     ·(intro w hSw;(try dsimp only at hSw);go_simp;try with_reducible rfl)
     try simp only[tkS]
     refine tk 14 ⟨some 62,_,_,_,_,_⟩ ?_ rfl ?_ ?_
     rotate_left
     ·(intro w hSw;(try dsimp only at hSw);go_simp;try with_reducible rfl)
     try simp only[tkS]
     refine tk 15 ⟨some 63,_,_,_,_,_⟩ ?_ rfl ?_ ?_
     rotate_left
     ·(intro w hSw;(try dsimp only at hSw);go_simp;try with_reducible rfl)
     try simp only[tkS]
     refine tk 16 ⟨some 64,_,_,_,_,_⟩ ?_ rfl ?_ ?_
     rotate_left
     ·(intro w hSw;(try dsimp only at hSw);go_simp;try with_reducible rfl)
     try simp only[tkS]
     refine tk 17 ⟨some 65,_,_,_,_,_⟩ ?_ rfl ?_ ?_
     rotate_left
     ·(intro w hSw;(try dsimp only at hSw);go_simp;try with_reducible rfl)
     try simp only[tkS]
     refine tk 18 ⟨some 66,_,_,_,_,_⟩ ?_ rfl ?_ ?_
     rotate_left
     ·(intro w hSw;have hlk:=I2.out w;go_simp;try with_reducible rfl)
     try simp only[tkS]
     refine wpAnyH_ready (rs:=[1]) (by kernel_rfl) (by simp) ?_
     refine AllReadyH.cons (o:=⟨some 49,_,_,_,_,_⟩) rfl (fun K hK=>?_) AllReadyH.nil
     go_simp
     refine (byte_any 92 _).mono ?_
     rintro e w1 ⟨rfl,hq1⟩
     have HB:Hid (Ext wr w1):=Ext.trans_ (by first|exact Ext.refl _|exact (Ext.refl _).drew_|exact (Ext.refl _).drewN_ _) hq1
     clear hq1
     refine hK.out _ _ ?_ (fun hHeld=>?_)
     ·(try dsimp only);first|done|trivial
     clear hK K
     try simp only[tkS]
     refine tk 2 ⟨some 50,_,_,_,_,_⟩ ?_ rfl ?_ ?_
     rotate_left
     ·(intro w hSw;(try dsimp only at hSw);go_simp;try with_reducible rfl)
     try simp only[tkS]
     refine tk 3 ⟨some 51,_,_,_,_,_⟩ ?_ rfl ?_ ?_
     rotate_left
     ·(intro w hSw;(try dsimp only at hSw);go_simp;try with_reducible rfl)
     try simp only[tkS]
     refine tk 11 ⟨some 59,_,_,_,_,_⟩ ?_ rfl ?_ ?_
     rotate_left
     ·(intro w hSw;(try dsimp only at hSw);go_simp;try with_reducible rfl)
     try simp only[tkS]
     refine tk 19 ⟨some 67,_,_,_,_,_⟩ ?_ rfl ?_ ?_
     rotate_left
     ·(intro w hSw;(try dsimp only at hSw);go_simp;try with_reducible rfl)
     try simp only[tkS]
     refine tk 20 ⟨some 4,_,_,_,_,_⟩ ?_ rfl ?_ ?_
     rotate_left
     ·(intro w hSw;(try dsimp only at hSw);go_simp;try with_reducible rfl)
     try simp only[tkS]
     refine wpAnyH_done (by kernel_rfl) ?_ _
     clear hHeld f1 f2 f3 f4 g1 g2 g3 g4
     go_wp2
     go_roundg r
     case measure=>omega
     case rel =>
      have hqe:(((q++byteS 92)++(⟨#[120]⟩:ByteArray))++b1)++b2=quoS (s.data.toList.take (k+1)):=by rw[HM.out,byte92,←HB1.out,←HB2.out,show (⟨#[120]⟩:ByteArray)=⟨[120].toArray⟩ from rfl,app2,app2,app2];rfl
      exact⟨k+1,_,by have:=HK.out;omega,rfl,by go_num,hqe,by rw[hqe];exact HQ2.out,hE.out.trans_ HB.out⟩
   ·have hm:=HSN.out [c] (by unfold quote1;rw[if_neg c10,if_neg c34,if_neg c32])
    have HM:=Lib.hid hm
    have z32:decide ((c.toNat:Int)<32)=false:=decide_eq_false (by omega)
    have z126:decide (126<(c.toNat:Int))=false:=decide_eq_false (by omega)
    clear hm c10 c34 c32
    go_wp2_with (go_at_call 122;refine (byte_any _ _).mono ?_;rintro e w1 ⟨rfl,hq1⟩;have HB:=Lib.hid hq1;clear hq1)
    go_roundg r
    case measure=>omega
    case rel =>
     have hqe:q++byteS (c.toNat:Int)=quoS (s.data.toList.take (k+1)):=by rw[HM.out,HC.out]
     exact⟨k+1,_,by have:=HK.out;omega,rfl,by go_num,hqe,by rw[hqe];exact HQ2.out,hE.out.trans_ HB.out⟩
  | zero =>
   obtain rfl:k=s.size:=by omega
   have hltz:¬((s.size:Nat):Int)<(s.size:Int):=by omega
   have hfin:quotedP s=q++⟨#[34]⟩:=by
    have h2:s.data.toList.take s.size=s.data.toList:=List.take_of_length_le (by simp)
    rw[hq.out,h2]
    show (⟨(34::(quotesP s.data.toList++[34])).toArray⟩:ByteArray)=_
    rw[quoS_add]
   have HF:=Lib.hid hfin
   clear hfin hk hq
   go_wp2
   go_ret
   exact⟨by rw[HF.out];rfl,hE.out⟩
theorem GathI.comes {I:Ideal} (hw:IWF I) (hl:I.V.length≤1000000000):∀ (us:List Int) (l:List Ob),GathI I l→(∀ u∈us,WordOk I.P u)→GathI I (comesP I.V l us)
 | [],l,g,_=>g
 | u::us,l,g,h=>by
  unfold comesP
  rw[List.foldl_cons]
  exact GathI.comes hw hl us _ (g.come hw hl (h u (by simp))) fun v hv=>h v (by simp[hv])
theorem node_flds {I:Ideal} (hw:IWF I) {x:Ob} (hx:x=obW I.V x.a∧x.a∈I.P) (hr:rawB (hKind x.w)=false):∀ u∈fldsW I.V x,WordOk I.P u:=fun u hu=>by
 have hxw:x.w=wat I.V x.a:=by rw[hx.1];rfl
 obtain⟨i,hi,rfl⟩:=List.mem_map.1 hu
 rw[hxw] at hr
 exact hw.fld _ hx.2 hr i (by have:=List.mem_range.1 hi;unfold szW;rw[←hxw];exact this)
theorem GathI.step {I:Ideal} (hw:IWF I) (hl:I.V.length≤1000000000) {l:List Ob} (g:GathI I l) {x:Ob} (hx:x∈l):GathI I (stepP I.V l x):=by
 unfold stepP
 split
 ·exact g
 ·rename_i hr
  exact GathI.comes hw hl _ l g (node_flds hw (g.ob x hx) (by simpa using hr))
theorem GathI.reachG {I:Ideal} (hw:IWF I) (hl:I.V.length≤1000000000):∀ (n k:Nat) (l:List Ob),GathI I l→GathI I (reachG I.V n k l)
 | 0,k,l,g=>g
 | n+1,k,l,g=>by
  unfold Go.Proofs.YtelhoppfidibiaaGreatDoor.reachG
  cases e:l[k]? with
  | none=>exact g
  | some o=>exact GathI.reachG hw hl n (k+1) _ (g.step hw hl (List.mem_of_getElem? e))
theorem gath_reachI {I:Ideal} (hw:IWF I) (hl:I.V.length≤1000000000):GathI I (reachI I) :=
 GathI.reachG hw hl _ _ _ (GathI.comes hw hl _ _ (GathI.nil I) hw.roots)
theorem reachI_root {I:Ideal} {i:Nat} (hi:i<I.roots.length) {a:Nat} (h:ptsW (I.roots.getD i 0)=(a:Int)):a∈(reachI I).map (·.a) :=
 reachI_roots I (by rw[List.getD_eq_getElem?_getD,List.getElem?_eq_getElem hi];exact List.getElem_mem hi) h
theorem reachI_shut {I:Ideal} (hw:IWF I) (hl:I.V.length≤1000000000) {o:Ob} (ho:o∈reachI I) (hr:rawB (hKind o.w)=false) {u:Int} (hu:u∈fldsW I.V o) {b:Nat} (hb:ptsW u=(b:Int)):b∈(reachI I).map (·.a):=by
 have hlen:=(gath_reachI hw hl).len hw
 have hs:=reachG_shut I.V I.V.length 0 (comesP I.V [] I.roots) (fun j hj=>by omega) (show (reachI I).length≤I.V.length+0 from hlen) o ho
 rcases hs with q|q
 ·rw[hr] at q;cases q
 ·have:=q u hu (by omega)
  rw[hb] at this
  obtain⟨o2,ho2,e⟩:=List.mem_map.1 (List.contains_iff_mem.1 this)
  exact List.mem_map.2 ⟨o2,ho2,by omega⟩
theorem objAt_in {l:List Ob} {a:Nat} (h:a∈l.map (·.a)):0≤objAt l (a:Int):=by
 rw[objAt_neg]
 obtain⟨o,ho,e⟩:=List.mem_map.1 h
 exact List.contains_iff_mem.2 (List.mem_map.2 ⟨o,ho,by show (o.a:Int)=_;rw[e]⟩)
theorem objAt_bd (l:List Ob) (p:Int):objAt l p<(l.length:Int)∧-1≤objAt l p:=by
 unfold objAt
 cases h:l.findIdx? (fun o=>(o.a:Int)==p) with
 | none=>simp;omega
 | some i =>
  obtain⟨hi,-⟩:=List.findIdx?_eq_some_iff_getElem.1 h
  simp;omega
theorem cell_const (k:Int) (n:Int) (p:Option Addr) (v:Value) (w:World) (hk:0≤k∧k≤2):Calls Tryz.prog 64 #[.agg #[.int .i64 k,.int .i64 n,.pointer p],v] w fun e w'=>e=.returned (.string (constS k.toNat))∧Ext w w':=by
 obtain rfl|rfl|rfl:k=0∨k=1∨k=2:=by omega
 all_goals
  go_enter Tryz.func64,Tryz.ntmps64
  go_wp2
  go_ret
  exact⟨rfl,by repeat (first|exact Ext.refl _|(refine Ext.alloc_ ?_ _)|(refine Ext.drew_ ?_))⟩
theorem cell_int (n:Int) (p:Option Addr) (v:Value) (w:World) (hn:-9223372036854775808≤n∧n≤9223372036854775807):Calls Tryz.prog 64 #[.agg #[.int .i64 3,.int .i64 n,.pointer p],v] w fun e w'=>e=.returned (.string (decS n))∧Ext w w':=by
 go_enter Tryz.func64,Tryz.ntmps64
 go_wp2_with (go_at_call 65;refine (decimal_all n hn.1 hn.2 _).mono ?_;rintro e w1 ⟨rfl,hq⟩;have HX1:Hid (Ext w w1):=((Ext.refl w).alloc_ _).trans_ hq;clear hq)
 go_ret
 exact⟨rfl,HX1.out⟩
theorem cell_ptr (n:Int) (A:Option Addr) (C:Nat) (l:List Ob) (pl:Nat→Nat) (a:Nat) (w:World) (hR:RSl w A (ptrs pl l)) (hl:l.length≤1000000000) (hinj:∀ o∈l,pl o.a=pl a→o.a=a) (hpb:∀ o∈l,PB w (pl o.a)) (hpa:PB w (pl a)) :
  Calls Tryz.prog 64 #[.agg #[.int .i64 4,.int .i64 n,.pointer (some ⟨pl a,0,none⟩)],.slice A l.length C] w fun e w'=>e=.returned (.string (⟨#[64]⟩++decS (objAt l (a:Int))))∧Ext w w':=by
 have HR:=Lib.hid hR
 have HI:=Lib.hid hinj
 have HPB:Hid (∀ w',Ext w w'→(∀ o∈l,PB w' (pl o.a))∧PB w' (pl a)):=fun w' hx=>⟨fun o ho=>(hpb o ho).ext hx,hpa.ext hx⟩
 obtain⟨b1,b2⟩:=objAt_bd l (a:Int)
 have hdz:=decS_size (objAt l (a:Int))
 generalize ho:objAt l (a:Int)=ob at *
 have HOB:=Lib.hid ho
 clear hR hinj hpb hpa ho
 go_enter Tryz.func64,Tryz.ntmps64
 go_wp2_with (first
  | (go_at_call 120;refine (nodeAt_walk _ _ l pl a _ (HR.out.ext ((Ext.refl _).alloc_ _)) hl HI.out (HPB.out _ ((Ext.refl _).alloc_ _)).1 (HPB.out _ ((Ext.refl _).alloc_ _)).2).mono ?_;rintro e w1 ⟨he,hq⟩;rw[HOB.out] at he;subst he;have HX1:Hid (Ext w w1):=((Ext.refl w).alloc_ _).trans_ hq;clear hq)
  | (go_at_call 65;refine (decimal_all ob (by omega) (by omega) _).mono ?_;rintro e w2 ⟨rfl,hq⟩;have HX2:Hid (Ext w w2):=HX1.out.trans_ hq;clear hq))
 go_ret
 exact⟨rfl,HX2.out⟩
theorem numW_i64 {u:Int} (h:0≤u∧u≤18446744073709551615):-9223372036854775808≤numW u∧numW u≤9223372036854775807:=by unfold numW;split<;>omega
theorem cellText_any {w0 w:World} {B0:Nat} {I:Ideal} {nx:Int} {X:MPl} (hM:RMod w0 B0 I nx X) (hx:Ext w0 w) (hw:IWF I) (hl:I.V.length≤1000000000) {u:Int} (hu:WordOk I.P u) (A:Option Addr) (C:Nat) (l:List Ob) (hg:GathI I l) (hR:RSl w A (ptrs X.pl l)) (hin:∀ a:Nat,ptsW u=(a:Int)→a∈l.map (·.a)) :
  Calls Tryz.prog 64 #[.agg #[.int .i64 (cellK u),.int .i64 (cellN u),.pointer (cellP X.pl u)],.slice A l.length C] w fun e w'=>e=.returned (.string (toldS u l))∧Ext w w':=by
 have hll:=hg.len hw
 by_cases hp:0≤ptsW u
 ·obtain⟨a,ha⟩:∃ a:Nat,ptsW u=(a:Int):=⟨(ptsW u).toNat,by omega⟩
  have hm:=(WordOk.pts hw hl hu ha).1
  have e1:cellK u=4:=if_pos hp
  have e2:cellP X.pl u=some ⟨X.pl a,0,none⟩:=by unfold cellP;rw[if_pos hp,ha,Int.toNat_natCast]
  obtain⟨k1,k2,k3⟩:=pts_at ha
  have k1':u%4=0:=k1
  have hob:=objAt_in (hin a ha)
  have e3:toldS u l=⟨#[64]⟩++decS (objAt l (a:Int)):=by
   unfold toldS
   rw[if_neg (by omega),if_neg (by omega),if_neg k2,ha,if_neg (by omega)]
  rw[e1,e2,e3]
  exact cell_ptr _ A C l X.pl a w hR (by omega) (fun o ho e=>hM.inj (hg.ob o ho).2 hm e) (fun o ho=>PB.ext ((hM.node _ (hg.ob o ho).2).blk) hx) (PB.ext ((hM.node a hm).blk) hx)
 ·rcases hu with⟨a,ha,rfl⟩|⟨n,-,rfl⟩|⟨c,hc,rfl⟩
  ·exact absurd (by rw[(pts_addr (show a≤1000000000 by have:=hw.dom a ha;omega)).1];omega) hp
  ·obtain⟨w1,w2,w3⟩:=intW_wd n
   have hk:intW n%4=1:=w3
   have e1:cellK (intW n)=3:=by unfold cellK;rw[if_neg hp,if_pos hk]
   have e2:cellN (intW n)=numW (intW n):=by unfold cellN;rw[if_neg hp,if_pos hk]
   have e3:toldS (intW n) l=decS (numW (intW n)):=by unfold toldS;rw[if_pos hk]
   rw[e1,e2,e3]
   exact cell_int _ _ _ w (numW_i64 ⟨w1,w2⟩)
  ·obtain⟨w1,w2,w3⟩:=constW_wd c
   have hk:constW c%4=2:=w3
   have e1:cellK (constW c)=c:=by unfold cellK;rw[if_neg hp,if_neg (by omega)];unfold constW;omega
   have e3:toldS (constW c) l=constS c.toNat:=by
    unfold toldS
    rw[if_neg (by omega),if_pos hk]
    congr 2
    unfold constW;omega
   rw[e1,e3]
   exact cell_const c _ _ _ w hc
theorem modShow_walk (w:World) (B:Nat) (I:Ideal) (nx:Int) (X:MPl) (hM:RMod w B I nx X) (hw:IWF I) (hl:I.V.length≤1000000000) (hrl:I.roots.length≤1000000) :
  Calls Tryz.prog 20 #[.pointer (some ⟨X.mb,0,none⟩)] w fun e w'=>e=.returned (.string (showI I))∧Ext w w':=by
 have HM:=Lib.hid hM
 have HW:=Lib.hid hw
 have HGT:=Lib.hid (gath_reachI hw hl)
 have hll:=(gath_reachI hw hl).len hw
 have HRI:Hid (∀ i,i<I.roots.length→∀ a:Nat,ptsW (I.roots.getD i 0)=(a:Int)→a∈(reachI I).map (·.a)):=fun i hi a ha=>reachI_root hi ha
 have HSI:Hid (∀ o∈reachI I,rawB (hKind o.w)=false→∀ u∈fldsW I.V o,∀ b:Nat,ptsW u=(b:Int)→b∈(reachI I).map (·.a)):=fun o ho hr u hu b hb=>reachI_shut hw hl ho hr hu hb
 have HSH:Hid (showI I=objsT I.V (reachI I) 0 (reachI I) (rootsS (reachI I) I.roots ⟨#[]⟩)):=rfl
 have HRW:=Lib.hid (modReach_walk w B I nx X hM hw hl hrl)
 clear hM hw
 generalize showI I=sh at *
 generalize reachI I=l at *
 go_enter Tryz.func20,Tryz.ntmps20
 go_upto_region 4 with (go_at_call 63;refine HRW.out.mono ?_;rintro e w1 ⟨ra,rc,rfl,hO,hq⟩;have HX1:=Lib.hid hq;have HRR:=Lib.hid ((row_rsl hO).1);clear hq hO)
 clear HRW
 have z5:(⟨#[114,111,111,116,32]⟩:ByteArray).size=5:=rfl
 have z1:(⟨#[32]⟩:ByteArray).size=1:=rfl
 have z2:(⟨#[10]⟩:ByteArray).size=1:=rfl
 go_loopg [5,4] (I.roots.length) (fun r i out wr=>∃ (k:Nat) (s:ByteArray),k+r=I.roots.length∧i=.int .i64 (k:Int)∧out=.string s∧s.size≤40*k∧Hid (s=rootsS l (I.roots.take k) ⟨#[]⟩)∧Hid (Ext w1 wr))
 case atStart=>exact⟨0,⟨#[]⟩,by omega,rfl,rfl,Nat.zero_le _,rfl,Ext.refl _⟩
 case round =>
  obtain⟨k,s,hk,rfl,rfl,hsz,hS,hE⟩:=hrel
  have hMr:=HM.out.ext (HX1.out.trans_ hE.out)
  have r0:=hMr.roots
  cases gk with
  | succ r =>
   have hlt:k<I.roots.length:=by omega
   have hltz:(k:Int)<(I.roots.length:Int):=by omega
   obtain⟨c0,c1,c2⟩:=hMr.root k hlt
   have hu:=HW.out.root hlt
   have hin:=HRI.out k hlt
   have hsn:=foldl_snoc (rootS l) ⟨#[]⟩ I.roots k hlt
   have hgd:I.roots[k]=I.roots.getD k 0:=by rw[List.getD_eq_getElem?_getD,List.getElem?_eq_getElem hlt];rfl
   rw[hgd] at hsn
   have f1:IntKind.i64.wrap ((k:Int)+1)=((k+1:Nat):Int):=by rw[IntWalk.i64_in _ (by omega)];omega
   generalize I.roots.getD k 0=u at *
   have htz:=toldS_size u l
   have hrz:=rootS_size l s u
   have HU:=Lib.hid hu
   have HIN:=Lib.hid hin
   have HK:=Lib.hid hk
   have HSN:=Lib.hid hsn
   clear hMr hu hk hsn hlt hin hgd
   go_wp2_with (go_at_call 64;refine (cellText_any HM.out (HX1.out.trans_ (hE.out.trans_ (by repeat (first|exact Ext.refl _|(refine Ext.drew_ ?_)|(refine Ext.drewN_ ?_ _))))) HW.out hl HU.out ra rc l HGT.out (HRR.out.ext (hE.out.trans_ (by repeat (first|exact Ext.refl _|(refine Ext.drew_ ?_)|(refine Ext.drewN_ ?_ _))))) HIN.out).mono ?_;rintro e w2 ⟨rfl,hq⟩;have HX2:Hid (Ext w1 w2):=hE.out.trans_ (Ext.trans_ (by repeat (first|exact Ext.refl _|(refine Ext.drew_ ?_)|(refine Ext.drewN_ ?_ _))) hq);clear hq)
   go_roundg r
   case measure=>omega
   case rel =>
    refine⟨k+1,rootS l s u,by have:=HK.out;omega,by go_num,rfl,by omega,?_,HX2⟩
    show _=_
    unfold rootsS
    rw[HSN.out]
    have:=hS.out
    unfold rootsS at this
    rw[←this]
  | zero =>
   obtain rfl:k=I.roots.length:=by omega
   have hltz:¬((I.roots.length:Nat):Int)<(I.roots.length:Int):=by omega
   have hS':s=rootsS l I.roots ⟨#[]⟩:=by have:=hS.out;rw[List.take_length] at this;exact this
   have HG0:Hid (objsT I.V l 0 (l.drop 0) s=sh):=by rw[Hid,HSH.out,←hS',List.drop_zero]
   have hsz0:s.size≤40000000:=by omega
   obtain⟨wA,rfl⟩:∃ x,x=wr:=⟨wr,rfl⟩
   have hE0:=hE
   clear hS hS' hMr hk hsz
   go_upto_region 8 with fail
   go_loopg [6,4] (l.length) (fun r i out wr2=>∃ (k:Nat) (s:ByteArray),k+r=l.length∧i=.int .i64 (k:Int)∧out=.string s∧s.size≤40000000+200000*k∧Hid (objsT I.V l k (l.drop k) s=sh)∧Hid (Ext w1 wr2))
   case atStart=>exact⟨0,s,by omega,rfl,rfl,by omega,HG0.out,hE0.out⟩
   case round =>
    clear HG0 hsz0 r0 hltz hE
    obtain⟨k,s,hk,rfl,rfl,hsz,hS,hE⟩:=hrel
    cases gk with
    | succ r =>
     have hlt:k<l.length:=by omega
     have hltz:(k:Int)<(l.length:Int):=by omega
     obtain⟨ob,oo,hoa,c00⟩:=(HRR.out.ext hE.out) _ _ (ptrs_at X.pl l k hlt)
     subst hoa
     have hmem:l[k]∈l:=List.getElem_mem hlt
     obtain⟨g1,g2⟩:=HGT.out.ob _ hmem
     have hMr:=HM.out.ext (HX1.out.trans_ hE.out)
     have hnd:=hMr.node _ g2
     have hdrop:l.drop k=l[k]::l.drop (k+1):=List.drop_eq_getElem_cons hlt
     have hs2:=hS.out
     rw[hdrop,objsT] at hs2
     obtain⟨x,hxx⟩:∃ x,l[k]=x:=⟨_,rfl⟩
     have HLK:Hid (∀ h:k<l.length,l[k]=x):=fun h=>hxx
     rw[hxx] at hmem g1 g2 hnd hs2
     have c0:wr.cell? ⟨ob,oo+k,none⟩=some (.pointer (some ⟨X.pl x.a,0,none⟩)):=by rw[←hxx];exact c00
     have HXM:=Lib.hid hmem
     clear hxx c00
     have hxw:x.w=wat I.V x.a:=by rw[g1];rfl
     have hxn:szW I.V x.a=x.n:=by unfold szW Ob.n;rw[hxw]
     have hhd:=HW.out.head _ g2
     have hro:RawOk I.V x:=by rw[g1];exact hhd.raw
     have hkz:0≤hKind x.w∧hKind x.w≤255:=by
      obtain⟨kd,n,e,hk1,hn⟩:=hhd.hd
      obtain⟨d1,d2,d3,d4,d5⟩:=headW_hd kd 0 0 (n:Int) hk1 (by omega) (by omega) ⟨by omega,by omega⟩
      rw[hxw,e,d2];exact hk1
     have hn4:x.n≤4096:=by
      obtain⟨kd,n,e,hk1,hn⟩:=hhd.hd
      obtain⟨d1,d2,d3,d4,d5⟩:=headW_hd kd 0 0 (n:Int) hk1 (by omega) (by omega) ⟨by omega,by omega⟩
      unfold Ob.n;rw[hxw,e,d5];omega
     have HROx:=Lib.hid hro
     have HSF:=Lib.hid (fun hr=>HSI.out x hmem hr)
     have n0:=hnd.kind
     have n1:=hnd.flds
     have n2:=hnd.num
     have n3:=hnd.str
     rw[←hxw] at n0 n2 n3
     have HXW:=Lib.hid hxw
     have HXN:=Lib.hid hxn
     have HG2:=Lib.hid g2
     have HK:=Lib.hid hk
     obtain⟨kd,hkd⟩:∃ kd,hKind x.w=kd:=⟨_,rfl⟩
     rw[hkd] at n0 n2 n3 hs2 hkz
     have HKD:=Lib.hid hkd
     have hdz1:=decS_size (k:Int)
     have hdz2:=decS_size kd
     have f1:IntKind.i64.wrap ((k:Int)+1)=((k+1:Nat):Int):=by rw[IntWalk.i64_in _ (by omega)];omega
     have hk64:(k:Int)≤9223372036854775807:=by omega
     have hhs:=headS_size k kd s
     have HS2:=Lib.hid hs2
     have HMR:=Lib.hid hMr
     have HSZ:=Lib.hid hsz
     have s1:¬9223372036854775807<s.size+(decS (k:Int)).size:=by omega
     have s2:¬9223372036854775807<s.size+(decS (k:Int)).size+1:=by omega
     have s3:¬9223372036854775807<s.size+(decS (k:Int)).size+1+(decS kd).size:=by omega
     clear hS hdrop hmem g1 g2 hMr hnd hs2 hxw hxn hhd hro hkd hk hlt
     go_upto_region 10 with fail
     go_wp2
     refine wp_region_held_drew (S:=fun W=>W.cell? ⟨ob,oo+k,none⟩=some (.pointer (some ⟨X.pl x.a,0,none⟩))∧W.cell? ⟨X.pl x.a,0,none⟩=some (.int .i64 kd)) (by kernel_rfl) ?_ (fun hHeld=>?_)
     ·exact⟨c0,n0⟩
     refine tk 0 ⟨some 38,_,_,_,_,_⟩ ?_ rfl ?_ ?_
     rotate_left
     ·(intro w hSw;(try dsimp only at hSw);obtain⟨g1,g2⟩:=hSw;go_simp;try with_reducible rfl)
     try simp only[tkS]
     refine tk 1 ⟨some 39,_,_,_,_,_⟩ ?_ rfl ?_ ?_
     rotate_left
     ·(intro w hSw;(try dsimp only at hSw);obtain⟨g1,g2⟩:=hSw;go_simp;try with_reducible rfl)
     try simp only[tkS]
     refine tk 5 ⟨some 43,_,_,_,_,_⟩ ?_ rfl ?_ ?_
     rotate_left
     ·(intro w hSw;(try dsimp only at hSw);obtain⟨g1,g2⟩:=hSw;go_simp;try with_reducible rfl)
     try simp only[tkS]
     refine tk 6 ⟨some 44,_,_,_,_,_⟩ ?_ rfl ?_ ?_
     rotate_left
     ·(intro w hSw;(try dsimp only at hSw);obtain⟨g1,g2⟩:=hSw;go_simp;try with_reducible rfl)
     try simp only[tkS]
     refine tk 7 ⟨some 45,_,_,_,_,_⟩ ?_ rfl ?_ ?_
     rotate_left
     ·(intro w hSw;(try dsimp only at hSw);obtain⟨g1,g2⟩:=hSw;go_simp;try with_reducible rfl)
     try simp only[tkS]
     refine tk 8 ⟨some 46,_,_,_,_,_⟩ ?_ rfl ?_ ?_
     rotate_left
     ·(intro w hSw;(try dsimp only at hSw);obtain⟨g1,g2⟩:=hSw;go_simp;try with_reducible rfl)
     try simp only[tkS]
     refine tk 9 ⟨some 47,_,_,_,_,_⟩ ?_ rfl ?_ ?_
     rotate_left
     ·(intro w hSw;(try dsimp only at hSw);obtain⟨g1,g2⟩:=hSw;go_simp;try with_reducible rfl)
     try simp only[tkS]
     refine tk 10 ⟨some 48,_,_,_,_,_⟩ ?_ rfl ?_ ?_
     rotate_left
     ·(intro w hSw;(try dsimp only at hSw);obtain⟨g1,g2⟩:=hSw;go_simp;try with_reducible rfl)
     try simp only[tkS]
     refine tk 11 ⟨some 49,_,_,_,_,_⟩ ?_ rfl ?_ ?_
     rotate_left
     ·(intro w hSw;(try dsimp only at hSw);obtain⟨g1,g2⟩:=hSw;go_simp;try with_reducible rfl)
     try simp only[tkS]
     refine wpAnyH_ready (rs:=[2]) (by kernel_rfl) (by simp) ?_
     refine AllReadyH.cons (o:=⟨some 40,_,_,_,_,_⟩) rfl (fun K hK=>?_) AllReadyH.nil
     go_simp
     refine (decimal_all (k:Int) (by omega) (by omega) _).mono ?_
     rintro e w6 ⟨rfl,hq⟩
     have q6:=And.intro (hq.cell_ hHeld.1) (hq.cell_ hHeld.2)
     have HX6:Hid (Ext wr w6):=Ext.trans_ (by repeat (first|exact Ext.refl _|(refine Ext.drew_ ?_)|(refine Ext.drewN_ ?_ _))) hq
     clear hq
     refine hK.out _ _ ?_ (fun hHeld=>?_)
     ·(try dsimp only);exact q6
     clear hK K
     try simp only[tkS]
     refine tk 3 ⟨some 41,_,_,_,_,_⟩ ?_ rfl ?_ ?_
     rotate_left
     ·(intro w hSw;(try dsimp only at hSw);obtain⟨g1,g2⟩:=hSw;go_simp;try with_reducible rfl)
     try simp only[tkS]
     refine tk 4 ⟨some 42,_,_,_,_,_⟩ ?_ rfl ?_ ?_
     rotate_left
     ·(intro w hSw;(try dsimp only at hSw);obtain⟨g1,g2⟩:=hSw;go_simp;try with_reducible rfl)
     try simp only[tkS]
     refine wpAnyH_ready (rs:=[12]) (by kernel_rfl) (by simp) ?_
     refine AllReadyH.cons (o:=⟨some 50,_,_,_,_,_⟩) rfl (fun K hK=>?_) AllReadyH.nil
     go_simp
     refine (decimal_all kd (by omega) (by omega) _).mono ?_
     rintro e w7 ⟨rfl,hq⟩
     have q7:=And.intro (hq.cell_ hHeld.1) (hq.cell_ hHeld.2)
     have HX7:Hid (Ext w6 w7):=Ext.trans_ (by repeat (first|exact Ext.refl _|(refine Ext.drew_ ?_)|(refine Ext.drewN_ ?_ _))) hq
     clear hq
     refine hK.out _ _ ?_ (fun hHeld=>?_)
     ·(try dsimp only);exact q7
     clear hK K
     try simp only[tkS]
     refine tk 13 ⟨some 51,_,_,_,_,_⟩ ?_ rfl ?_ ?_
     rotate_left
     ·(intro w hSw;(try dsimp only at hSw);obtain⟨g1,g2⟩:=hSw;go_simp;try with_reducible rfl)
     try simp only[tkS]
     refine tk 14 ⟨some 4,_,_,_,_,_⟩ ?_ rfl ?_ ?_
     rotate_left
     ·(intro w hSw;(try dsimp only at hSw);obtain⟨g1,g2⟩:=hSw;go_simp;try with_reducible rfl)
     try simp only[tkS]
     refine wpAnyH_done (by kernel_rfl) ?_ _
     clear hHeld
     generalize hy:s++decS (k:Int)++(⟨#[32]⟩:ByteArray)++decS kd=y
     have hhy:headS k kd s=y:=hy
     have HS3:Hid (objsT I.V l (k+1) (l.drop (k+1)) (bodyS I.V l x y++⟨#[10]⟩)=sh):=by have h:=HS2.out;rw[hhy] at h;exact h
     rw[hhy] at hhs
     have HXZ:Hid (Ext wr w7):=HX6.out.trans_ HX7.out
     have N0:=Lib.hid n0
     have N1:=Lib.hid n1
     have N2:=Lib.hid n2
     have N3:=Lib.hid n3
     have C0:=Lib.hid c0
     clear hy hhy n0 n1 n2 n3 c0 HS2 q6 q7 s1 s2 s3 hdz1 hdz2
     have hyz:y.size≤40000000+200000*k+50:=by have:=HSZ.out;omega
     have hyz2:y.size≤2000000000000000:=by omega
     have HYZ:=Lib.hid hyz
     clear hyz hhs
     have n0:=HXZ.out.cell_ N0.out
     have n1:=HXZ.out.cell_ N1.out
     have n2:=HXZ.out.cell_ N2.out
     have n3:=HXZ.out.cell_ N3.out
     have c0:=HXZ.out.cell_ C0.out
     by_cases hk1:kd=1
     ·have hk1b:(kd==1)=true:=by simpa using hk1
      have hk2b:(kd==2)=false:=by simp;omega
      have e1:fldV X I.V x.a=.slice none 0 0:=if_pos (by rw[←HXW.out,HKD.out];omega)
      rw[e1] at n1
      rw[if_pos hk1] at n2
      have hbd:bodyS I.V l x y=(y++⟨#[32]⟩)++decS (longOf I.V x.a):=by unfold bodyS;rw[HKD.out,if_pos hk1]
      have HBD:=Lib.hid hbd
      have hts:=decS_size (longOf I.V x.a)
      clear hbd
      go_upto_region 16 with (go_at_call 65;refine (decimal_all (longOf I.V x.a) (longOf_in _ _).1 (longOf_in _ _).2 _).mono ?_;rintro e w8 ⟨rfl,hq⟩;have HXY:Hid (Ext wr w8):=HXZ.out.trans_ (Ext.trans_ (by repeat (first|exact Ext.refl _|(refine Ext.drew_ ?_)|(refine Ext.drewN_ ?_ _))) hq);clear hq)
      clear n0 n1 n2 n3 c0
      have n0:=HXY.out.cell_ N0.out
      have n1:=HXY.out.cell_ N1.out
      have n2:=HXY.out.cell_ N2.out
      have n3:=HXY.out.cell_ N3.out
      have c0:=HXY.out.cell_ C0.out
      rw[e1] at n1
      generalize hz:(y++(⟨#[32]⟩:ByteArray))++decS (longOf I.V x.a)=z at *
      have hzz:z.size≤y.size+60:=by rw[←hz];simp only[ByteArray.size_append];omega
      have HZ:=Lib.hid (HBD.out)
      clear hz hts
      go_wp2
      refine wp_loop_rounds 1 ?_
      rw[rounds_succ]
      go_wp2
      go_roundg r
      case measure=>omega
      case rel=>exact⟨k+1,z++⟨#[10]⟩,by have:=HK.out;omega,by go_num,rfl,by rw[ByteArray.size_append];have:=HYZ.out;omega,by have h:=HS3.out;rw[HZ.out] at h;exact h,hE.out.trans_ (HXY.out.trans_ (by repeat (first|exact Ext.refl _|(refine Ext.drew_ ?_)|(refine Ext.drewN_ ?_ _))))⟩
     have hk1b:(kd==1)=false:=by simpa using hk1
     rw[if_neg hk1] at n2
     by_cases hk2:kd=2
     ·have hk2b:(kd==2)=true:=by simpa using hk2
      have e1:fldV X I.V x.a=.slice none 0 0:=if_pos (by rw[←HXW.out,HKD.out];omega)
      rw[e1] at n1
      rw[if_pos hk2] at n3
      have hbd:bodyS I.V l x y=(y++⟨#[32]⟩)++quotedP (textOf I.V x.a):=by unfold bodyS;rw[HKD.out,if_neg hk1,if_pos hk2]
      have HBD:=Lib.hid hbd
      have htt:(textOf I.V x.a).size≤2000:=by rw[textOf_size];have:=HROx.out.two (HKD.out.trans hk2);omega
      have hts:(quotedP (textOf I.V x.a)).size≤8002:=by have h1:=quotedP_size (textOf I.V x.a);omega
      clear hbd
      go_upto_region 16 with (go_at_call 66;refine (quotedR_any (textOf I.V x.a) _ (by omega)).mono ?_;rintro e w8 ⟨rfl,hq⟩;have HXY:Hid (Ext wr w8):=HXZ.out.trans_ (Ext.trans_ (by repeat (first|exact Ext.refl _|(refine Ext.drew_ ?_)|(refine Ext.drewN_ ?_ _))) hq);clear hq)
      clear n0 n1 n2 n3 c0
      have n0:=HXY.out.cell_ N0.out
      have n1:=HXY.out.cell_ N1.out
      have n2:=HXY.out.cell_ N2.out
      have n3:=HXY.out.cell_ N3.out
      have c0:=HXY.out.cell_ C0.out
      rw[e1] at n1
      generalize hz:(y++(⟨#[32]⟩:ByteArray))++quotedP (textOf I.V x.a)=z at *
      have hzz:z.size≤y.size+9000:=by rw[←hz];simp only[ByteArray.size_append];omega
      have HZ:=Lib.hid (HBD.out)
      clear hz hts htt
      go_wp2
      refine wp_loop_rounds 1 ?_
      rw[rounds_succ]
      go_wp2
      go_roundg r
      case measure=>omega
      case rel=>exact⟨k+1,z++⟨#[10]⟩,by have:=HK.out;omega,by go_num,rfl,by rw[ByteArray.size_append];have:=HYZ.out;omega,by have h:=HS3.out;rw[HZ.out] at h;exact h,hE.out.trans_ (HXY.out.trans_ (by repeat (first|exact Ext.refl _|(refine Ext.drew_ ?_)|(refine Ext.drewN_ ?_ _))))⟩
     have hk2b:(kd==2)=false:=by simpa using hk2
     have hk8:8≤kd:=by
      rcases HROx.out.kind with q|q|q<;>rw[HKD.out] at q
      ·exact absurd q hk1
      ·exact absurd q hk2
      ·exact q
     have e1:fldV X I.V x.a=.slice (some ⟨X.fl x.a,0,none⟩) x.n x.n:=by
      unfold fldV
      rw[if_neg (by rw[←HXW.out,HKD.out];omega),HXN.out]
     have HK8:Hid (8≤hKind (wat I.V x.a)):=by unfold Hid;rw[←HXW.out,HKD.out];exact hk8
     have HRB:Hid (rawB (hKind x.w)=false):=by unfold Hid rawB;rw[HKD.out];exact decide_eq_false (by omega)
     have hbd:bodyS I.V l x y=fieldsS l kd (fldsW I.V x) y:=by unfold bodyS;rw[HKD.out,if_neg hk1,if_neg hk2]
     have HBD:=Lib.hid hbd
     have HE1:=Lib.hid e1
     clear hbd e1 n1 n2 n3
     go_upto_region 17 with fail
     clear n0 c0
     go_loopg [7,4] (x.n) (fun r3 i out wr3=>∃ (j:Nat) (t:ByteArray),j+r3=x.n∧i=.int .i64 (j:Int)∧out=.string t∧t.size≤y.size+40*j∧Hid (t=fieldsS l kd ((fldsW I.V x).take j) y)∧Hid (Ext w1 wr3))
     case atStart=>exact⟨0,y,by omega,rfl,rfl,Nat.le_refl _,rfl,hE.out.trans_ (HXZ.out.trans_ (by repeat (first|exact Ext.refl _|(refine Ext.drew_ ?_)|(refine Ext.drewN_ ?_ _))))⟩
     case round =>
      obtain⟨j,t,hj,rfl,rfl,htz,ht,hE3⟩:=hrel
      have hm3:=HM.out.ext (HX1.out.trans_ hE3.out)
      have hnd:=hm3.node _ HG2.out
      have n1:=hnd.flds
      rw[HE1.out] at n1
      obtain⟨ob3,oo3,hoa3,c3⟩:=(HRR.out.ext hE3.out) _ _ (ptrs_at X.pl l k (by have:=HK.out;omega))
      injection hoa3 with hoa3
      injection hoa3 with h9 h10
      subst h9 h10
      have c0':wr.cell? ⟨ob,oo+k,none⟩=some (.pointer (some ⟨X.pl x.a,0,none⟩)):=by rw[HLK.out (by have:=HK.out;omega)] at c3;exact c3
      clear c3 hm3
      cases gk with
      | succ r3 =>
       have hlt:j<x.n:=by omega
       have hltz2:(j:Int)<(x.n:Int):=by omega
       obtain⟨d0,d1,d2⟩:=hnd.fld HK8.out j (by rw[HXN.out];exact hlt)
       have hmemu:wat I.V (x.a+1+j)∈fldsW I.V x:=List.mem_map.2 ⟨j,List.mem_range.2 hlt,rfl⟩
       have hu:=node_flds HW.out (HGT.out.ob x HXM.out) HRB.out _ hmemu
       have hin:=HSF.out HRB.out _ hmemu
       have hsn:=foldl_snoc (fieldS l kd) y (fldsW I.V x) j (by simp[fldsW];omega)
       have hge:(fldsW I.V x)[j]'(by simp[fldsW];omega)=wat I.V (x.a+1+j):=by simp[fldsW]
       rw[hge] at hsn
       generalize wat I.V (x.a+1+j)=u at *
       have htd:=toldS_size u l
       have hfz:=fieldS_size l kd t u
       have f2:IntKind.i64.wrap ((j:Int)+1)=((j+1:Nat):Int):=by rw[IntWalk.i64_in _ (by omega)];omega
       have HU:=Lib.hid hu
       have HIN:=Lib.hid hin
       have HJ:=Lib.hid hj
       have HSN:=Lib.hid hsn
       have HTZ:=Lib.hid htz
       have htz2:t.size≤3000000000000000:=by omega
       clear hnd hu hin hj hsn hge hmemu hlt htz
       go_wp2_with (go_at_call 64;refine (cellText_any HM.out (HX1.out.trans_ (hE3.out.trans_ (by repeat (first|exact Ext.refl _|(refine Ext.drew_ ?_)|(refine Ext.drewN_ ?_ _))))) HW.out hl HU.out (some ⟨ob,oo,none⟩) rc l HGT.out (HRR.out.ext (hE3.out.trans_ (by repeat (first|exact Ext.refl _|(refine Ext.drew_ ?_)|(refine Ext.drewN_ ?_ _))))) HIN.out).mono ?_;rintro e w9 ⟨rfl,hq⟩;have HX9:Hid (Ext w1 w9):=hE3.out.trans_ (Ext.trans_ (by repeat (first|exact Ext.refl _|(refine Ext.drew_ ?_)|(refine Ext.drewN_ ?_ _))) hq);clear hq)
       go_roundg r3
       case measure=>omega
       case rel =>
        refine⟨j+1,fieldS l kd t u,by have:=HJ.out;omega,by go_num,by unfold fieldS;rw[if_neg (show ¬kd<8 by omega)],by have:=HTZ.out;omega,?_,HX9.out.trans_ (by repeat (first|exact Ext.refl _|(refine Ext.drew_ ?_)|(refine Ext.drewN_ ?_ _)))⟩
        show _=_
        have h1:=HSN.out
        unfold fieldsS at ht ⊢
        rw[h1,←ht.out]
      | zero =>
       obtain rfl:j=x.n:=by omega
       have hltz2:¬((x.n:Nat):Int)<(x.n:Int):=by omega
       have ht':t=bodyS I.V l x y:=by
        have:=ht.out
        rw[List.take_of_length_le (by simp[fldsW])] at this
        rw[HBD.out];exact this
       have HT':=Lib.hid ht'
       have HTZ:=Lib.hid htz
       have htz2:t.size≤3000000000000000:=by omega
       clear ht ht' hj hnd htz
       go_wp2
       go_roundg r
       case measure=>omega
       case rel =>
        refine⟨k+1,t++⟨#[10]⟩,by have:=HK.out;omega,by go_num,rfl,by rw[ByteArray.size_append];have h1:=HTZ.out;have h2:=HYZ.out;omega,?_,hE3.out.trans_ (by repeat (first|exact Ext.refl _|(refine Ext.drew_ ?_)|(refine Ext.drewN_ ?_ _)))⟩
        have h:=HS3.out
        rw[←HT'.out] at h
        exact h
    | zero =>
     obtain rfl:k=l.length:=by omega
     have hltz:¬((l.length:Nat):Int)<(l.length:Int):=by omega
     have hgs:s=sh:=by
      have h:=hS.out
      rw[List.drop_length,objsT] at h
      exact h
     subst hgs
     clear hk hsz hS
     go_wp2
     go_ret
     exact⟨rfl,HX1.out.trans_ hE.out⟩
theorem kSmall_walk (n:Int) (w:World):Calls Tryz.prog 52 #[.int .i64 n] w fun e w'=>e=.returned (.bool (smallB n))∧Ext w w':=by
 unfold smallB
 by_cases h:-2305843009213693952≤n
 ·have hb:decide (-2305843009213693952≤n)=true:=decide_eq_true h
  rw[hb,Bool.true_and]
  go_enter Tryz.func52,Tryz.ntmps52
  go_wp2
  go_ret
  exact⟨rfl,by repeat (first|exact Ext.refl _|(refine Ext.drew_ ?_))⟩
 ·have hb:decide (-2305843009213693952≤n)=false:=decide_eq_false h
  rw[hb,Bool.false_and]
  go_enter Tryz.func52,Tryz.ntmps52
  go_wp2
  go_ret
  exact⟨rfl,by repeat (first|exact Ext.refl _|(refine Ext.drew_ ?_))⟩
section
variable {B:Nat} {I:Ideal} {nx:Int} {X:MPl}
theorem do_int (x:ActP) (w:World) (hM:RMod w B I nx X) (hw:IWF I) (hl:I.V.length≤1000000000) (hv:I64 x.n) (he:errI I .int x=0):Calls Tryz.prog 18 #[.pointer (some ⟨X.mb,0,none⟩),.agg #[.string ⟨#[105,110,116]⟩,.int .i64 x.a,.int .i64 x.b,.int .i64 x.c,.int .i64 x.n,.string x.s]] w (DoPost w B I X (I.int x.a.toNat x.n) nx 0):=by
 have ra:rootI I x.a=true:=by
  cases ra:rootI I x.a with
  | true=>rfl
  | false=>rw[eI_int,ra] at he;cases he
 obtain⟨rn,er,hrl⟩:=rootI_at ra
 rw[er,Int.toNat_natCast]
 have q0:=hM.roots
 obtain⟨c0,c1,c2⟩:=hM.root rn hrl
 obtain⟨gcur,gt,gb⟩:=hM.gblk
 have gz:∀ j,w.frozen? ⟨X.G,j,none⟩=false:=heap_frozen ⟨gcur,gt,gb⟩
 have y1:X.mb<w.heap.size:=cell_lt q0
 have y2:X.G<w.heap.size:=cell_lt c0
 have hrz:(rn:Int)<(I.roots.length:Int):=by omega
 have HM:=Lib.hid hM
 have HW:=Lib.hid hw
 have HR:=Lib.hid hrl
 unfold Ideal.int
 cases hs:smallB x.n with
 | true =>
  rw[if_pos rfl]
  have HK:=Lib.hid (small_cell hs)
  have HS:=Lib.hid hs
  clear hs er
  clear hM hw hrl ra he gb
  go_enter Tryz.func18,Tryz.ntmps18
  go_upto_region 3 with fail
  go_region
  go_wp2_with (go_at_call 52;refine (kSmall_walk x.n _).mono ?_;rintro e w1 ⟨he,hq⟩;rw[HS.out] at he;subst he;have HX1:=Lib.hid hq;clear hq)
  go_ret
  exact do_setR (wa:=w) HM.out (Ext.refl w) HR.out HK.out.1 HK.out.2.1 (HK.out.2.2 _) (Ext.trans_ (by repeat (first|exact Ext.refl _|(refine Ext.alloc_ ?_ _)|(refine Ext.drew_ ?_)|(refine Ext.drewN_ ?_ _))) (HX1.out.trans_ (by repeat (first|exact Ext.refl _|(refine Ext.alloc_ ?_ _)|(refine Ext.drew_ ?_)|(refine Ext.drewN_ ?_ _)))))
 | false =>
  rw[if_neg (by simp)]
  have HK:=Lib.hid (anyW_cell x.n)
  have HS:=Lib.hid hs
  have HV:=Lib.hid hv
  clear hs er
  clear hM hw hrl ra he gb
  go_enter Tryz.func18,Tryz.ntmps18
  go_upto_region 3 with fail
  go_region
  go_upto_region 5 with (go_at_call 52;refine (kSmall_walk x.n _).mono ?_;rintro e w1 ⟨he,hq⟩;rw[HS.out] at he;subst he;have HX1:=Lib.hid hq;clear hq)
  obtain⟨h1,k1⟩:=HM.out.setR HR.out HK.out.1 HK.out.2.1 (HK.out.2.2.1 X.pl)
  have h2:=h1.ext (Ext.trans_ (by repeat (first|exact Ext.refl _|(refine Ext.alloc_ ?_ _)|(refine Ext.drew_ ?_)|(refine Ext.drewN_ ?_ _))) HX1.out)
  have HK2:=Lib.hid (k1.trans (Keep.of_ext (Ext.trans_ (by repeat (first|exact Ext.refl _|(refine Ext.alloc_ ?_ _)|(refine Ext.drew_ ?_)|(refine Ext.drewN_ ?_ _))) HX1.out)))
  have H2:=Lib.hid h2
  have hr2:rn<(I.setR rn (anyW x.n)).roots.length:=by show rn<(I.roots.set rn _).length;rw[List.length_set];exact HR.out
  have p0:=h2.roots
  rw[show (I.setR rn (anyW x.n)).roots.length=I.roots.length from List.length_set] at p0
  obtain⟨p1,p2,p3⟩:=h2.root rn hr2
  have gz1:∀ j,w1.frozen? ⟨X.G,j,none⟩=false:=heap_frozen h2.gblk
  have b1:=HX1.out.cell_ (p:=⟨w.heap.size,1,none⟩) (v:=.int .i64 (rn:Int)) (by simp[go_sem])
  have y3:X.mb<w1.heap.size:=cell_lt p0
  have y4:X.G<w1.heap.size:=cell_lt p1
  have b4:=HX1.out.cell_ (p:=⟨w.heap.size,4,none⟩) (v:=.int .i64 x.n) (by simp[go_sem])
  have y5:w.heap.size<w1.heap.size:=cell_lt b1
  clear h1 k1 h2 hr2 q0 c0 c1 c2 gz
  go_region
  go_wp2
  go_ret
  refine do_newG (wa:=w1) (wb:=w1.alloc (.cells #[.int .i64 1,.slice none 0 0,.int .i64 x.n,.string ⟨#[]⟩,.int .i64 0] 102)) (R:=I.roots.set rn (anyW x.n)) (f:=0) H2.out HK2.out (fun i hi=>?_) (by rw[List.set_set]) (by rw[List.length_set];exact HR.out) HW.out hl (by repeat (first|exact Ext.refl _|(refine Ext.alloc_ ?_ _)|(refine Ext.drew_ ?_)|(refine Ext.drewN_ ?_ _))) (Nat.le_refl _) (fun h=>by omega) (by omega) (by simp) (node_long HV.out (heap_alloc_new _ _)) (by rw[set3_alloc _ y4];exact (by repeat (first|exact Ext.refl _|(refine Ext.alloc_ ?_ _)|(refine Ext.drew_ ?_)|(refine Ext.drewN_ ?_ _))))
  by_cases e:rn=i
  ·subst e;rw[gD_same HR.out];exact Or.inr (by have:=HK.out.2.2.2;omega)
  ·rw[gD_ne e];exact Or.inl (HW.out.root (by rwa [List.length_set] at hi))
theorem do_make (x:ActP) (w:World) (hM:RMod w B I nx X) (hw:IWF I) (hl:I.V.length≤1000000000) (he:errI I .make x=0):Calls Tryz.prog 18 #[.pointer (some ⟨X.mb,0,none⟩),.agg #[.string ⟨#[109,97,107,101]⟩,.int .i64 x.a,.int .i64 x.b,.int .i64 x.c,.int .i64 x.n,.string x.s]] w (DoPost w B I X (doI I .make x false) nx 0):=by
 have ra:rootI I x.a=true:=by
  cases ra:rootI I x.a with
  | true=>rfl
  | false=>rw[eI_make,ra] at he;cases he
 obtain⟨rn,er,hrl⟩:=rootI_at ra
 have hb:8≤x.b∧x.b≤255∧0≤x.c∧x.c≤4096:=by
  rw[eI_make,ra,if_pos rfl] at he
  by_cases h:x.b<8∨255<x.b∨x.c<0∨4096<x.c
  ·rw[if_pos h] at he;cases he
  ·omega
 obtain⟨b1,b2,b3,b4⟩:=hb
 rw[dI_make]
 obtain⟨m,hm⟩:∃ m:Nat,x.c=(m:Int):=⟨x.c.toNat,by omega⟩
 rw[er,hm,Int.toNat_natCast,Int.toNat_natCast]
 have hm2:m≤4096:=by omega
 have q0:=hM.roots
 obtain⟨c0,c1,c2⟩:=hM.root rn hrl
 obtain⟨gcur,gt,gb⟩:=hM.gblk
 have gz:∀ j,w.frozen? ⟨X.G,j,none⟩=false:=heap_frozen ⟨gcur,gt,gb⟩
 have y1:X.mb<w.heap.size:=cell_lt q0
 have y2:X.G<w.heap.size:=cell_lt c0
 have hrz:(rn:Int)<(I.roots.length:Int):=by omega
 have HM:=Lib.hid hM
 have HW:=Lib.hid hw
 have HR:=Lib.hid hrl
 obtain⟨i0,hi0,h0a,h0b,h0c⟩:=info_parts infoCell
 have e0:((w.alloc (.cells #[.string ⟨#[109,97,107,101]⟩,.int .i64 (rn:Int),.int .i64 x.b,.int .i64 (m:Int),.int .i64 x.n,.string x.s] 41)).drew).heap.size=w.heap.size+1:=by simp[go_sem]
 obtain⟨w1,hr1,ho1,hg1⟩:=run_make_full (P:=Tryz.prog) (w:=(w.alloc (.cells #[.string ⟨#[109,97,107,101]⟩,.int .i64 (rn:Int),.int .i64 x.b,.int .i64 (m:Int),.int .i64 x.n,.string x.s] 41)).drew) w.heap.size 53 52 i0 (.agg #[.int .i64 0,.int .i64 0,.pointer none]) 3 undCells hi0 h0a h0b .i64 .i64 m (by rw[h0c];omega) (by unfold maxLen;omega) (by rw[e0];omega)
 rw[e0] at hr1 ho1
 have hxa:Ext w (w.alloc (.cells #[.string ⟨#[109,97,107,101]⟩,.int .i64 (rn:Int),.int .i64 x.b,.int .i64 (m:Int),.int .i64 x.n,.string x.s] 41)).drew:=(by repeat (first|exact Ext.refl _|(refine Ext.alloc_ ?_ _)|(refine Ext.drew_ ?_)|(refine Ext.drewN_ ?_ _)))
 have hx1:Ext w w1:=Below.grown hxa hg1 (by rw[e0];omega) (fun k hk=>by cases hk)
 have hxb:Ext (w.alloc (.cells #[.string ⟨#[109,97,107,101]⟩,.int .i64 (rn:Int),.int .i64 x.b,.int .i64 (m:Int),.int .i64 x.n,.string x.s] 41)).drew w1:=Below.grown (Below.refl _ _) hg1 (Nat.le_refl _) (fun k hk=>by cases hk)
 have hR:=(row_rsl ho1).1
 have hcl:∀ j,j<m*3→w1.cell? ⟨w.heap.size+1,j,none⟩=some ((#[.int .i64 0,.int .i64 0,.pointer none]:Array Value)[j%3]!):=fun j hj=>by
  have h1:(madeCells (Value.agg #[.int .i64 0,.int .i64 0,.pointer none]).cells (m*3)).toList[j]?=some ((#[.int .i64 0,.int .i64 0,.pointer none]:Array Value)[j%3]!):=by
   rw[Array.getElem?_toList]
   exact made_at _ _ _ hj
  have:=hR.at_ h1
  simpa using this
 have hfb:∃ cur t,w1.heap[w.heap.size+1]?=some (.cells cur t (0,0)):=by
  obtain⟨_,h2⟩:=ho1
  rcases h2 with⟨e,_⟩|⟨g,cap,cur,e,q1,q2,_⟩
  ·cases e
  ·cases e;exact⟨cur,_,q2⟩
 have HN:Hid (NodeAt (w1.alloc (.cells #[.int .i64 x.b,.slice (some ⟨w.heap.size+1,0,none⟩) m m,.int .i64 0,.string ⟨#[]⟩,.int .i64 0] 102)) (I.new x.b (List.replicate m 2)).V (X.new I.V.length w1.heap.size (w.heap.size+1)) I.V.length 0):=by
  have hxn:Ext w1 (w1.alloc (.cells #[.int .i64 x.b,.slice (some ⟨w.heap.size+1,0,none⟩) m m,.int .i64 0,.string ⟨#[]⟩,.int .i64 0] 102)):=(by repeat (first|exact Ext.refl _|(refine Ext.alloc_ ?_ _)|(refine Ext.drew_ ?_)|(refine Ext.drewN_ ?_ _)))
  refine node_make (t:=102) ⟨b1,b2⟩ hm2 (heap_alloc_new _ _) (keep_blk (L:=fun _=>False) (Keep.of_ext hxn) (fun q=>q) hfb) fun j hj=>⟨hxn.cell_ ?_,hxn.cell_ ?_,hxn.cell_ ?_⟩
  ·rw[hcl _ (by omega),show j*3%3=0 by omega];rfl
  ·rw[hcl _ (by omega),show (j*3+1)%3=1 by omega];rfl
  ·rw[hcl _ (by omega),show (j*3+2)%3=2 by omega];rfl
 have z0:=hx1.cell_ q0
 have z1:=hx1.cell_ c0
 have z2:=hx1.cell_ c1
 have z3:=hx1.cell_ c2
 have gz1:∀ j,w1.frozen? ⟨X.G,j,none⟩=false:=heap_frozen (keep_blk (L:=fun _=>False) (Keep.of_ext hx1) (fun q=>q) ⟨gcur,gt,gb⟩)
 have a1:=hxb.cell_ (p:=⟨w.heap.size,1,none⟩) (v:=.int .i64 (rn:Int)) (by simp[go_sem])
 have a2:=hxb.cell_ (p:=⟨w.heap.size,2,none⟩) (v:=.int .i64 x.b) (by simp[go_sem])
 have y5:w.heap.size+1<w1.heap.size:=heap_lt hfb
 have y3:X.G<w1.heap.size:=by omega
 have y6:w.heap.size<w1.heap.size:=by omega
 have y7:X.mb<w1.heap.size:=by omega
 have HX:=Lib.hid hx1
 clear er e0 ho1 hg1 hxa hx1 hxb hR hcl hfb hi0 h0a h0b h0c
 clear hM hw hrl ra he gb
 go_enter Tryz.func18,Tryz.ntmps18
 go_upto_region 11 with fail
 go_region
 go_wp2
 go_ret
 exact do_new (wb:=w1.alloc (.cells #[.int .i64 x.b,.slice (some ⟨w.heap.size+1,0,none⟩) m m,.int .i64 0,.string ⟨#[]⟩,.int .i64 0] 102)) (p:=w1.heap.size) (f:=w.heap.size+1) HM.out HR.out HW.out hl (HX.out.alloc_ _) (by omega) (fun h=>by omega) (by omega) (by simp;omega) HN.out (by rw[set3_alloc _ y3];exact (by repeat (first|exact Ext.refl _|(refine Ext.alloc_ ?_ _)|(refine Ext.drew_ ?_)|(refine Ext.drewN_ ?_ _))))
end
section
variable {B:Nat} {I:Ideal} {nx:Int} {X:MPl}
theorem do_put (x:ActP) (w:World) (hM:RMod w B I nx X) (hw:IWF I) (hl:I.V.length≤1000000000) (he:errI I .put x=0):Calls Tryz.prog 18 #[.pointer (some ⟨X.mb,0,none⟩),.agg #[.string ⟨#[112,117,116]⟩,.int .i64 x.a,.int .i64 x.b,.int .i64 x.c,.int .i64 x.n,.string x.s]] w (DoPost w B I X (doI I .put x false) nx 0):=by
 have hac:rootI I x.a=true∧rootI I x.c=true∧fieldI I x.a x.b=0:=by
  rw[eI_put] at he
  cases ra:rootI I x.a<;>cases rb:rootI I x.c<;>simp[ra,rb] at he<;>exact⟨rfl,rfl,he⟩
 obtain⟨ra,rc,hf⟩:=hac
 obtain⟨a,k,rn,er,ek,hat,epl⟩:=field_at ra hf
 obtain⟨sn,es,hsl⟩:=rootI_at rc
 obtain⟨hrl,hpa,hraw,hk⟩:=hat
 rw[dI_put,epl,er,ek,es,Int.toNat_natCast]
 have q0:=hM.roots
 obtain⟨c0,c1,c2⟩:=hM.root rn hrl
 have y1:X.mb<w.heap.size:=cell_lt q0
 have y2:X.G<w.heap.size:=cell_lt c0
 have hrz:(rn:Int)<(I.roots.length:Int):=by omega
 have HM:=Lib.hid hM
 have HW:=Lib.hid hw
 have HR:=Lib.hid hrl
 have hu:=hw.root hrl
 have hm:=(WordOk.pts hw hl hu hpa).1
 have h8:8≤hKind (wat I.V a):=by
  unfold rawB at hraw;simp at hraw;omega
 have hN:=hM.node a hm
 obtain⟨d0,d1,d2⟩:=hM.root sn hsl
 obtain⟨f0,f1,f2⟩:=hN.fld h8 k hk
 have n1:=hN.flds
 rw[show fldV X I.V a=.slice (some ⟨X.fl a,0,none⟩) (szW I.V a) (szW I.V a) from if_neg (by omega)] at n1
 have e0:0≤ptsW (I.roots.getD rn 0):=by omega
 have e2:cellP X.pl (I.roots.getD rn 0)=some ⟨X.pl a,0,none⟩:=by unfold cellP;rw[if_pos e0,hpa,Int.toNat_natCast]
 have HE2:=Lib.hid e2
 have HMm:=Lib.hid hm
 have H8:=Lib.hid h8
 have HK:=Lib.hid hk
 have hsz:(sn:Int)<(I.roots.length:Int):=by omega
 have hkz:(k:Int)<(szW I.V a:Int):=by omega
 have y3:X.pl a<w.heap.size:=cell_lt n1
 have y4:X.fl a<w.heap.size:=cell_lt f0
 have gz:∀ j,w.frozen? ⟨X.fl a,j,none⟩=false:=heap_frozen (hN.fblk h8)
 rw[e2] at c2
 clear er ek es epl hf rc hu hm h8 hN e2 e0 hk hpa hraw hsl
 clear hM hw hrl ra he
 go_enter Tryz.func18,Tryz.ntmps18
 go_upto_region 17 with fail
 go_region
 go_wp2
 go_ret
 exact do_putG HM.out HW.out HMm.out H8.out HK.out rfl rfl rfl (by repeat (first|exact Ext.refl _|(refine Ext.alloc_ ?_ _)|(refine Ext.drew_ ?_)|(refine Ext.drewN_ ?_ _)))
end
theorem fresh_root {n i:Nat} (h:i<n):(Ideal.fresh n).roots.getD i 0=2:=by
 show (List.replicate n (2:Int)).getD i 0=2
 rw[List.getD_eq_getElem?_getD,List.getElem?_replicate,if_pos h];rfl
theorem newModelR_walk (n:Nat) (hn:n≤5000) (w:World) :
  Calls Tryz.prog 17 #[.int .i64 (n:Int)] w fun e w'=>∃ X,e=.returned (.pointer (some ⟨X.mb,0,none⟩))∧RMod w' w.heap.size (Ideal.fresh n) 1 X∧Ext w w':=by
 obtain⟨i0,hi0,h0a,h0b,h0c⟩:=info_parts infoCell
 obtain⟨w1,hr1,ho1,hg1⟩:=run_make_full (P:=Tryz.prog) w w.heap.size 53 52 i0 (.agg #[.int .i64 0,.int .i64 0,.pointer none]) 3 undCells hi0 h0a h0b .i64 .i64 n (by rw[h0c];omega) (by unfold maxLen;omega) (Nat.le_refl _)
 have hx1:Ext w w1:=Below.grown (Below.refl _ _) hg1 (Nat.le_refl _) (fun k hk=>by cases hk)
 have hR:=(row_rsl ho1).1
 have hcl:∀ j,j<n*3→w1.cell? ⟨w.heap.size,j,none⟩=some ((#[.int .i64 0,.int .i64 0,.pointer none]:Array Value)[j%3]!):=fun j hj=>by
  have h1:(madeCells (Value.agg #[.int .i64 0,.int .i64 0,.pointer none]).cells (n*3)).toList[j]?=some ((#[.int .i64 0,.int .i64 0,.pointer none]:Array Value)[j%3]!):=by
   rw[Array.getElem?_toList]
   exact made_at _ _ _ hj
  have:=hR.at_ h1
  simpa using this
 have hfb:∃ cur t,w1.heap[w.heap.size]?=some (.cells cur t (0,0)):=by
  obtain⟨_,h2⟩:=ho1
  rcases h2 with⟨e,_⟩|⟨g,cap,cur,e,q1,q2,_⟩
  ·cases e
  ·cases e;exact⟨cur,_,q2⟩
 have hlt:w.heap.size<w1.heap.size:=heap_lt hfb
 have hN:RMod (w1.alloc (.cells #[.slice (some ⟨w.heap.size,0,none⟩) n n,.slice none 0 0,.int .i64 0] 56)) w.heap.size (Ideal.fresh n) 1 ⟨id,id,w1.heap.size,w.heap.size,.slice none 0 0⟩:=by
  have hx:=(Ext.refl w1).alloc_ (.cells #[.slice (some ⟨w.heap.size,0,none⟩) n n,.slice none 0 0,.int .i64 0] 56)
  have hb:=heap_alloc_new w1 (.cells #[.slice (some ⟨w.heap.size,0,none⟩) n n,.slice none 0 0,.int .i64 0] 56)
  refine⟨⟨_,_,hb⟩,?_,?_,?_,keep_blk (L:=fun _=>False) (Keep.of_ext hx) (fun q=>q) hfb,fun i hi=>?_,Or.inl ⟨rfl,rfl⟩,fun a ha=>by simp[Ideal.fresh] at ha,⟨Nat.le_of_lt hlt,Nat.le_refl _,fun a ha=>by simp[Ideal.fresh] at ha⟩,⟨fun k=>if k=w1.heap.size then 0 else 1,if_pos rfl,if_neg (by show w.heap.size≠w1.heap.size;omega),fun k hk=>(by cases hk),fun a ha=>(by simp[Ideal.fresh] at ha),fun a ha=>(by simp[Ideal.fresh] at ha)⟩⟩
  ·rw[show (Ideal.fresh n).roots.length=n by simp[Ideal.fresh],World.cell?,hb];rfl
  ·rw[World.cell?,hb];rfl
  ·rw[World.cell?,hb];rfl
  ·have hi':i<n:=by simpa [Ideal.fresh] using hi
   rw[fresh_root hi']
   refine⟨hx.cell_ ?_,hx.cell_ ?_,hx.cell_ ?_⟩
   ·rw[hcl _ (by omega),show i*3%3=0 by omega];rfl
   ·rw[hcl _ (by omega),show (i*3+1)%3=1 by omega];rfl
   ·rw[hcl _ (by omega),show (i*3+2)%3=2 by omega];rfl
 have HN:=Lib.hid hN
 have HX:=Lib.hid (hx1.alloc_ (.cells #[.slice (some ⟨w.heap.size,0,none⟩) n n,.slice none 0 0,.int .i64 0] 56))
 clear ho1 hg1 hx1 hR hcl hN hfb hlt
 go_enter Tryz.func17,Tryz.ntmps17
 go_wp2
 go_ret
 exact⟨⟨id,id,w1.heap.size,w.heap.size,.slice none 0 0⟩,rfl,HN.out,HX.out⟩
end Go.Proofs.YtelhoppfidibiaaGreatDoor
