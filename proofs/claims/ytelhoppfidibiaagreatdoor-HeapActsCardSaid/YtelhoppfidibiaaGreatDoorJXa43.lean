/- The document's ErrorOf: the rest of the names, and all of them. -/
import Derived.Test.YtelhoppfidibiaaGreatDoorJXa42
set_option linter.unusedSimpArgs false
set_option linter.unusedVariables false
set_option maxHeartbeats 8000000
set_option maxRecDepth 100000
namespace Go.Proofs.YtelhoppfidibiaaGreatDoor
open Go.RowKit
open Bool renaming false_and→Za,true_and→Zb
open List renaming getElem?_eq_getElem→Zc,mem_cons→Zd,mem_of_getElem?→Ze,not_mem_nil→Zf
open Go.Proofs.Tryz renaming prog→Zg
open World renaming cell?_of_block→Zh,cell?_setCell_far→Zi,frozen?_of_block→Zj
section
variable {B:Nat} {I:B4} {nx:Int} {X:Q7}
theorem C8r (w:World) (B:Nat) (I:B4) (nx:Int) (X:Q7) (hM:E9 w B I nx X) (r:Int) :
  Calls Zg 74 #[.pointer (some ⟨X.mb,0,none⟩),.int .i64 r] w fun e w'=>e=.returned (.bool (E5 I r))∧w'=w:=by
 have q0:=hM.roots;clear hM;unfold E5;by_cases h:0≤r
 ·have hb:decide (0≤r)=true:=decide_eq_true h;rw[hb,Zb]
  go_enter Tryz.func74,Tryz.ntmps74
  go_wp2;go_ret;exact⟨rfl,rfl⟩
 ·have hb:decide (0≤r)=false:=decide_eq_false h;rw[hb,Za]
  go_enter Tryz.func74,Tryz.ntmps74
  go_wp2;go_ret;exact⟨rfl,rfl⟩
theorem D9r:A0r B I nx X ⟨#[115,101,114,105,97,108]⟩ .serial:=by
 intro x w HM HW hl hwl HRT;rw[B3s]
 cases ra:E5 I x.a with
 | false =>
  go_enter Tryz.func30,Tryz.ntmps30
  go_wp2_with (go_at_call 74;refine (HRT.out x.a x.a _ _ ra eX obq).mono ?_;rintro e w1 ⟨rfl,HX1,b0,b1,b2,b3,b4,b5⟩)
  go_ret;exact⟨rfl,HX1.out⟩
 | true =>
  simp only[if_true];obtain⟨rn,er,hrl⟩:=A0i ra;have hu:=HW.out.root hrl;rw[er] at ra ⊢;unfold A3b;rw[Int.toNat_natCast];obtain⟨u,hu'⟩:∃ u,I.roots.getD rn 0=u:=⟨_,rfl⟩;rw[hu'] at hu ⊢;have HU:=Hz hu;clear hu;by_cases hp:0≤B6 u
  ·have HE1:=Hz (show S9 u=4 from if_pos hp);rw[if_pos hp];clear hp
   go_enter Tryz.func30,Tryz.ntmps30
   go_upto_region 34 with (go_at_call 74;refine (HRT.out (rn:Int) (rn:Int) _ _ ra eX obq).mono ?_;rintro e w1 ⟨rfl,HX1,b0,b1,b2,b3,b4,b5⟩)
   obtain⟨hm2,q0,⟨c0,c1,c2⟩,y0,y1,y2,hrz⟩:=rt2 HM.out HX1.out hrl hu' b0;rw[HE1.out] at c0;clear hm2 c1 c2;go_region;go_wp2;go_ret;exact⟨rfl,HX1.out.trans_ eX⟩
  ·have HE1:=Hz (B3l HU.out hp (fun a ha=>by have:=HW.out.dom a ha;omega)).1;rw[if_neg hp];clear hp
   go_enter Tryz.func30,Tryz.ntmps30
   go_upto_region 34 with (go_at_call 74;refine (HRT.out (rn:Int) (rn:Int) _ _ ra eX obq).mono ?_;rintro e w1 ⟨rfl,HX1,b0,b1,b2,b3,b4,b5⟩)
   obtain⟨hm2,q0,⟨c0,c1,c2⟩,y0,y1,y2,hrz⟩:=rt2 HM.out HX1.out hrl hu' b0;have e1:=HE1.out;generalize S9 u=kz at *
   have e4:(kz==4)=false:=by simpa using e1
   clear hm2 c1 c2;go_region;go_wp2;go_ret;exact⟨rfl,HX1.out.trans_ eX⟩
theorem D9t:A0r B I nx X ⟨#[119,101,97,107]⟩ .weak:=by
 intro x w HM HW hl hwl HRT;rw[B3t]
 cases ra:E5 I x.a with
 | false =>
  go_enter Tryz.func30,Tryz.ntmps30
  go_wp2_with (go_at_call 74;refine (HRT.out x.a x.a _ _ ra eX obq).mono ?_;rintro e w1 ⟨rfl,HX1,b0,b1,b2,b3,b4,b5⟩)
  go_ret;exact⟨rfl,HX1.out⟩
 | true =>
  simp only[if_true];obtain⟨rn,er,hrl⟩:=A0i ra;have hu:=HW.out.root hrl;rw[er] at ra ⊢;unfold A3b;rw[Int.toNat_natCast];obtain⟨u,hu'⟩:∃ u,I.roots.getD rn 0=u:=⟨_,rfl⟩;rw[hu'] at hu ⊢;have HU:=Hz hu;clear hu;obtain⟨wa,wc,hwv⟩:=HM.out.wkv;have e5:((I.weak.length:Int)==5000)=false:=by simp;omega
  by_cases hp:0≤B6 u
  ·have HE1:=Hz (show S9 u=4 from if_pos hp);rw[if_pos hp];clear hp
   go_enter Tryz.func30,Tryz.ntmps30
   go_upto_region 34 with (go_at_call 74;refine (HRT.out (rn:Int) (rn:Int) _ _ ra eX obq).mono ?_;rintro e w1 ⟨rfl,HX1,b0,b1,b2,b3,b4,b5⟩)
   obtain⟨hm2,q0,⟨c0,c1,c2⟩,y0,y1,y2,hrz⟩:=rt2 HM.out HX1.out hrl hu' b0;have q1:=hm2.weak;rw[hwv] at q1;rw[HE1.out] at c0;clear hm2 c1 c2;go_region;go_wp2;go_ret;exact⟨rfl,HX1.out.trans_ eX⟩
  ·have HE1:=Hz (B3l HU.out hp (fun a ha=>by have:=HW.out.dom a ha;omega)).1;rw[if_neg hp];clear hp
   go_enter Tryz.func30,Tryz.ntmps30
   go_upto_region 34 with (go_at_call 74;refine (HRT.out (rn:Int) (rn:Int) _ _ ra eX obq).mono ?_;rintro e w1 ⟨rfl,HX1,b0,b1,b2,b3,b4,b5⟩)
   obtain⟨hm2,q0,⟨c0,c1,c2⟩,y0,y1,y2,hrz⟩:=rt2 HM.out HX1.out hrl hu' b0;have e1:=HE1.out;generalize S9 u=kz at *
   have e4:(kz==4)=false:=by simpa using e1
   clear hm2 c1 c2;go_region;go_wp2;go_ret;exact⟨rfl,HX1.out.trans_ eX⟩
theorem D9m:A0r B I nx X ⟨#[108,111,111,107]⟩ .look:=by
 intro x w HM HW hl hwl HRT;rw[B6d];obtain⟨wa,wc,hwv⟩:=HM.out.wkv;have h3:x.a<0∨(0≤x.a∧¬x.a<(I.weak.length:Int))∨(0≤x.a∧x.a<(I.weak.length:Int)):=by omega
 rcases h3 with h|⟨h,h'⟩|⟨h,h'⟩
 ·have hd1:decide (0≤x.a)=false:=decide_eq_false (by omega);rw[hd1,Za,Za];clear h
  cases ra:E5 I x.a
  all_goals
   go_enter Tryz.func30,Tryz.ntmps30
   go_upto_region 7 with (go_at_call 74;refine (HRT.out x.a x.a _ _ ra eX obq).mono ?_;rintro e w1 ⟨rfl,HX1,b0,b1,b2,b3,b4,b5⟩)
   have hm2:=HM.out.ext HX1.out;have q1:=hm2.weak;rw[hwv] at q1;have y0:w.heap.size<w1.heap.size:=B9 b0;have y1:X.mb<w1.heap.size:=B9 q1;clear hm2;go_region;go_wp2;go_ret;exact⟨rfl,HX1.out.trans_ eX⟩
 ·have hd1:decide (0≤x.a)=true:=decide_eq_true h;have hd2:decide (x.a<(I.weak.length:Int))=false:=decide_eq_false h';rw[hd1,hd2,Zb,Za];clear h h'
  cases ra:E5 I x.a
  all_goals
   go_enter Tryz.func30,Tryz.ntmps30
   go_upto_region 7 with (go_at_call 74;refine (HRT.out x.a x.a _ _ ra eX obq).mono ?_;rintro e w1 ⟨rfl,HX1,b0,b1,b2,b3,b4,b5⟩)
   have hm2:=HM.out.ext HX1.out;have q1:=hm2.weak;rw[hwv] at q1;have y0:w.heap.size<w1.heap.size:=B9 b0;have y1:X.mb<w1.heap.size:=B9 q1;clear hm2;go_region;go_wp2;go_ret;exact⟨rfl,HX1.out.trans_ eX⟩
 ·have hd1:decide (0≤x.a)=true:=decide_eq_true h;have hd2:decide (x.a<(I.weak.length:Int))=true:=decide_eq_true h';rw[hd1,hd2,Zb,Zb];clear h h'
  cases rb:E5 I x.b with
  | false =>
   have HRS:Hid (∀ w',A0 w w'→Calls Zg 74 #[.pointer (some ⟨X.mb,0,none⟩),.int .i64 x.b] w' fun e w''=>e=.returned (.bool false)∧w''=w'):=fun w' hx=>by
    have:=C8r w' B I nx X (HM.out.ext hx) x.b;rw[rb] at this;exact this
   cases ra:E5 I x.a
   all_goals
    go_enter Tryz.func30,Tryz.ntmps30
    go_upto_region 7 with (go_at_call 74;refine (HRT.out x.a x.a _ _ ra eX obq).mono ?_;rintro e w1 ⟨rfl,HX1,b0,b1,b2,b3,b4,b5⟩)
    have hm2:=HM.out.ext HX1.out;have q1:=hm2.weak;rw[hwv] at q1;have y0:w.heap.size<w1.heap.size:=B9 b0;have y1:X.mb<w1.heap.size:=B9 q1;clear hm2
    go_quiet ((go_at_call 74;exact Calls.quiet_of_same (HRS.out _ (HX1.out.trans_ eX))))
    go_wp2;go_ret;exact⟨rfl,HX1.out.trans_ eX⟩
  | true =>
   have HRS:Hid (∀ w',A0 w w'→Calls Zg 74 #[.pointer (some ⟨X.mb,0,none⟩),.int .i64 x.b] w' fun e w''=>e=.returned (.bool true)∧w''=w'):=fun w' hx=>by
    have:=C8r w' B I nx X (HM.out.ext hx) x.b;rw[rb] at this;exact this
   cases ra:E5 I x.a
   all_goals
    go_enter Tryz.func30,Tryz.ntmps30
    go_upto_region 7 with (go_at_call 74;refine (HRT.out x.a x.a _ _ ra eX obq).mono ?_;rintro e w1 ⟨rfl,HX1,b0,b1,b2,b3,b4,b5⟩)
    have hm2:=HM.out.ext HX1.out;have q1:=hm2.weak;rw[hwv] at q1;have y0:w.heap.size<w1.heap.size:=B9 b0;have y1:X.mb<w1.heap.size:=B9 q1;clear hm2
    go_quiet ((go_at_call 74;exact Calls.quiet_of_same (HRS.out _ (HX1.out.trans_ eX))))
    go_wp2;go_ret;exact⟨rfl,HX1.out.trans_ eX⟩
theorem D9p:A0r B I nx X ⟨#[109,105,110,111,114]⟩ .minor:=by
 intro x w HM HW hl hwl HRT;rw[show I5 I .minor x=0 from rfl]
 cases ra:E5 I x.a
 all_goals
  go_enter Tryz.func30,Tryz.ntmps30
  go_wp2_with (go_at_call 74;refine (HRT.out x.a x.a _ _ ra eX obq).mono ?_;rintro e w1 ⟨rfl,HX1,b0,b1,b2,b3,b4,b5⟩)
  go_ret;exact⟨rfl,HX1.out⟩
theorem D9n:A0r B I nx X ⟨#[109,97,106,111,114]⟩ .major:=by
 intro x w HM HW hl hwl HRT;rw[show I5 I .major x=0 from rfl]
 cases ra:E5 I x.a
 all_goals
  go_enter Tryz.func30,Tryz.ntmps30
  go_wp2_with (go_at_call 74;refine (HRT.out x.a x.a _ _ ra eX obq).mono ?_;rintro e w1 ⟨rfl,HX1,b0,b1,b2,b3,b4,b5⟩)
  go_ret;exact⟨rfl,HX1.out⟩
theorem E6k (x:E4) (w:World) (hM:E9 w B I nx X) (hw:D5 I) (hl:I.V.length≤1000000000) (hwl:I.weak.length<5000) (hk:E8 x.nm≠.other):Calls Zg 30 #[.pointer (some ⟨X.mb,0,none⟩),.agg #[.string x.nm,.int .i64 x.a,.int .i64 x.b,.int .i64 x.c,.int .i64 x.n,.string x.s]] w fun e w'=>e=.returned (.int .i64 (I5 I (E8 x.nm) x))∧A0 w w':=by
 by_cases n0:x.nm=⟨#[105,110,116]⟩
 ·have e:E8 x.nm=.int:=by rw[n0];rfl
  rw[e];rw[n0];exact D9l x w (Hz hM) (Hz hw) hl hwl (Hz (A5o hM _ x))
 by_cases n1:x.nm=⟨#[99,111,110,115,116]⟩
 ·have e:E8 x.nm=.const:=by rw[n1];rfl
  rw[e];rw[n1];exact D9i x w (Hz hM) (Hz hw) hl hwl (Hz (A5o hM _ x))
 by_cases n2:x.nm=⟨#[116,101,120,116]⟩
 ·have e:E8 x.nm=.text:=by rw[n2];rfl
  rw[e];rw[n2];exact D9s x w (Hz hM) (Hz hw) hl hwl (Hz (A5o hM _ x))
 by_cases n3:x.nm=⟨#[109,97,107,101]⟩
 ·have e:E8 x.nm=.make:=by rw[n3];rfl
  rw[e];rw[n3];exact D9o x w (Hz hM) (Hz hw) hl hwl (Hz (A5o hM _ x))
 by_cases n4:x.nm=⟨#[99,111,112,121]⟩
 ·have e:E8 x.nm=.copy:=by rw[n4];rfl
  rw[e];rw[n4];exact D9j x w (Hz hM) (Hz hw) hl hwl (Hz (A5o hM _ x))
 by_cases n5:x.nm=⟨#[103,101,116]⟩
 ·have e:E8 x.nm=.get:=by rw[n5];rfl
  rw[e];rw[n5];exact D9k x w (Hz hM) (Hz hw) hl hwl (Hz (A5o hM _ x))
 by_cases n6:x.nm=⟨#[112,117,116]⟩
 ·have e:E8 x.nm=.put:=by rw[n6];rfl
  rw[e];rw[n6];exact D9q x w (Hz hM) (Hz hw) hl hwl (Hz (A5o hM _ x))
 by_cases n7:x.nm=⟨#[109,105,110,111,114]⟩
 ·have e:E8 x.nm=.minor:=by rw[n7];rfl
  rw[e];rw[n7];exact D9p x w (Hz hM) (Hz hw) hl hwl (Hz (A5o hM _ x))
 by_cases n8:x.nm=⟨#[109,97,106,111,114]⟩
 ·have e:E8 x.nm=.major:=by rw[n8];rfl
  rw[e];rw[n8];exact D9n x w (Hz hM) (Hz hw) hl hwl (Hz (A5o hM _ x))
 by_cases n9:x.nm=⟨#[115,101,114,105,97,108]⟩
 ·have e:E8 x.nm=.serial:=by rw[n9];rfl
  rw[e];rw[n9];exact D9r x w (Hz hM) (Hz hw) hl hwl (Hz (A5o hM _ x))
 by_cases n10:x.nm=⟨#[119,101,97,107]⟩
 ·have e:E8 x.nm=.weak:=by rw[n10];rfl
  rw[e];rw[n10];exact D9t x w (Hz hM) (Hz hw) hl hwl (Hz (A5o hM _ x))
 by_cases n11:x.nm=⟨#[108,111,111,107]⟩
 ·have e:E8 x.nm=.look:=by rw[n11];rfl
  rw[e];rw[n11];exact D9m x w (Hz hM) (Hz hw) hl hwl (Hz (A5o hM _ x))
 exact absurd (by unfold E8;rw[if_neg n0,if_neg n1,if_neg n2,if_neg n3,if_neg n4,if_neg n5,if_neg n6,if_neg n7,if_neg n8,if_neg n9,if_neg n10,if_neg n11]) hk
end
section
variable {I I2:B4} {nx nx2 old c n z:Int} {M M2:A7} {ak:AK} {x:E4} {is:Bool} {S:C8}
theorem D9h (I:B4) (ak:AK) (x:E4):0≤I5 I ak x∧I5 I ak x≤5:=by
 have hf:∀ r f:Int,0≤A3r I r f∧A3r I r f≤5:=fun r f=>by
  unfold A3r
  split
  ·split
   ·omega
   ·split<;>omega
  ·omega
 have hp:∀ r:Int,0≤A3b I r∧A3b I r≤5:=fun r=>by unfold A3b;split<;>omega
 have h1:=hf x.a x.b;have h2:=hp x.a
 cases ak<;>simp only[I5]<;>(repeat (first|omega|split))
theorem A5q.refused (h:A5q I nx old M ak x c n is I2 nx2 M2) (e:I5 I ak x≠0):c=I5 I ak x∧n=0∧is=false∧I2=I∧nx2=nx:=by
 rcases h.res with⟨-,q,-⟩|⟨-,r2,r3,r4,r5,⟨-,q,-⟩|⟨-,q⟩⟩
 ·exact absurd q e
 ·exact absurd q e
 ·exact⟨q.symm,r2,r3,r4,r5⟩
theorem A5q.goes2 (h:A5q I nx old M ak x c n is I2 nx2 M2) (e:I5 I ak x=0):(c=0∧n=A8n I nx ak x∧(I2,nx2)=doN I nx ak x is)∨(c=6∧n=0∧is=false∧I2=I∧nx2=nx∧old<(A1w I:Int)+U5 ak x):=by
 rcases h.res with⟨r1,-,r3,r4⟩|⟨r1,r2,r3,r4,r5,⟨q,-,q3⟩|⟨-,q⟩⟩
 ·exact Or.inl ⟨r1,r3,r4⟩
 ·exact Or.inr ⟨q,r2,r3,r4,r5,q3⟩
 ·exact absurd (q.symm.trans e) r1
theorem E4y (hw:D5 I) (hl:I.V.length≤1000000000):A1w I≤5000*I.V.length:=by
 have hg:=A9i hw hl;have h1:∀ l:List Ob,(∀ o∈l,o.n≤4999)→(l.map fun o=>1+o.n).sum≤5000*l.length:=fun l=>by
  induction l with
  | nil=>intro _;simp
  | cons o l ih =>
   intro h;have h1:=h o (by simp);have h2:=ih fun q hq=>h q (by simp[hq])
   simp only[List.map_cons,List.sum_cons,List.length_cons];omega
 have h2:=h1 (K4 I) fun o ho=>by
  obtain⟨e,hP⟩:=hg.ob o ho;obtain⟨kd,m,e2,hk,hm⟩:=(hw.head o.a hP).hd;obtain⟨d1,d2,d3,d4,d5⟩:=A1t kd 0 0 (m:Int) hk (by omega) (by omega) ⟨by omega,by omega⟩;rw[e];show A9 I.V o.a≤4999;unfold A9;rw[e2,d5];omega
 have h3:=hg.len hw;unfold A1w;omega
theorem E7d (hs:ak=.text→x.s.size≤2000) (hm:ak=.make→0≤x.c∧x.c≤4096):0≤U5 ak x∧U5 ak x≤5000:=by
 cases ak with
 | int=>rw[C0h];split<;>omega
 | text=>rw[C0i];have:=hs rfl;omega
 | make=>rw[C5x];have:=hm rfl;omega
 | _=>exact⟨Int.le_refl 0,show (0:Int)≤5000 by omega⟩
theorem B6f (h:I5 I ak x=0):(ak=.text→x.s.size≤2000)∧(ak=.make→0≤x.c∧x.c≤4096):=by
 refine⟨fun e=>?_,fun e=>?_⟩
 ·subst e;rw[A7y] at h
  split at h
  ·split at h
   ·assumption
   ·cases h
  ·cases h
 ·subst e;rw[A7x] at h
  split at h
  ·split at h
   ·cases h
   ·omega
  ·cases h
theorem E5e (h:I5 I .look x=0):∃ kn rn:Nat,x.a=(kn:Int)∧x.b=(rn:Int)∧kn<I.weak.length∧rn<I.roots.length:=by
 rw[B6d] at h
 split at h
 ·rename_i q;simp only[Bool.and_eq_true,decide_eq_true_eq] at q;obtain⟨⟨q1,q2⟩,q3⟩:=q;obtain⟨rn,e,hr⟩:=A0i q3;exact⟨x.a.toNat,rn,by omega,e,by omega,hr⟩
 ·cases h
theorem D5.weak_at (hw:D5 I) (hl:I.V.length≤1000000000) {k:Nat} (hk:k<I.weak.length):∃ a,a∈I.P∧I.weak.getD k 0=D3 ((a:Nat):Int)∧B6 (I.weak.getD k 0)=(a:Int)∧a≤1000000000:=by
 obtain⟨a,ha,e⟩:=hw.weak (I.weak.getD k 0) (by rw[List.getD_eq_getElem?_getD,Zc hk];exact List.getElem_mem hk);have:=hw.dom a ha;exact⟨a,ha,e,by rw[e];exact (A5a (by omega)).1,by omega⟩
end
section
variable {w wr w1:World} {B hb b B2 mb:Nat} {ten old:Int} {R k K:Nat} {M M2:A7} {S S2:C8} {I I2:B4} {nx nx2 n c:Int} {g:List Bool} {gv:Value} {ak:AK} {x:E4} {is:Bool}
theorem V5.refused (t:V5 w wr B hb b B2 mb ten old R k K 0 M S I nx I nx g gv) (h1:E7 w1 B hb b M2 S2 ten nx2) (h2:D7 hb b wr S w1 S2) (h3:AI M2 nx2 old R (K+1)) (h4:A5q I nx old M ak x c n is I2 nx2 M2) (he:I5 I ak x≠0):c=I5 I ak x∧n=0∧is=false∧V5 w w1 B hb b B2 mb ten old R k (K+1) 0 M2 S2 I nx I nx g gv:=by
 obtain⟨r1,r2,r3,r4,r5⟩:=h4.refused he;have h5:=t.act h1 h2 h3 h4.holds h4.wk;rw[r4,r5] at h5;exact⟨r1,r2,r3,h5⟩
theorem V5.went (t:V5 w wr B hb b B2 mb ten old R k K 0 M S I nx I nx g gv) (h1:E7 w1 B hb b M2 S2 ten nx2) (h2:D7 hb b wr S w1 S2) (h3:AI M2 nx2 old R (K+1)) (h4:A5q I nx old M ak x c n is I2 nx2 M2) (he:I5 I ak x=0) :
  (c=0∧n=A8n I nx ak x∧(ak≠.look→is=false)∧V5 w w1 B hb b B2 mb ten old R k (K+1) 0 M2 S2 (doN I nx ak x is).1 (doN I nx ak x is).2 I nx g gv)∨(c=6∧n=0∧is=false∧old<(A1w I:Int)+U5 ak x∧V5 w w1 B hb b B2 mb ten old R k (K+1) 0 M2 S2 I nx I nx g gv):=by
 have h5:=t.act h1 h2 h3 h4.holds h4.wk;rcases h4.goes2 he with⟨r1,r2,r3⟩|⟨r1,r2,r3,r4,r5,r6⟩
 ·left;rw[←r3];exact⟨r1,r2,h4.plain,h5⟩
 ·right;rw[r4,r5] at h5;exact⟨r1,r2,r3,r6,h5⟩
end
theorem D4x {nm:ByteArray} (h:¬nm=⟨#[108,111,111,107]⟩):E8 nm≠.look:=by
 intro hk;unfold E8 at hk;by_cases a_int:nm=⟨#[105,110,116]⟩
 ·rw[if_pos a_int] at hk;cases hk
 rw[if_neg a_int] at hk;by_cases a_const:nm=⟨#[99,111,110,115,116]⟩
 ·rw[if_pos a_const] at hk;cases hk
 rw[if_neg a_const] at hk;by_cases a_text:nm=⟨#[116,101,120,116]⟩
 ·rw[if_pos a_text] at hk;cases hk
 rw[if_neg a_text] at hk;by_cases a_make:nm=⟨#[109,97,107,101]⟩
 ·rw[if_pos a_make] at hk;cases hk
 rw[if_neg a_make] at hk;by_cases a_copy:nm=⟨#[99,111,112,121]⟩
 ·rw[if_pos a_copy] at hk;cases hk
 rw[if_neg a_copy] at hk;by_cases a_get:nm=⟨#[103,101,116]⟩
 ·rw[if_pos a_get] at hk;cases hk
 rw[if_neg a_get] at hk;by_cases a_put:nm=⟨#[112,117,116]⟩
 ·rw[if_pos a_put] at hk;cases hk
 rw[if_neg a_put] at hk;by_cases a_minor:nm=⟨#[109,105,110,111,114]⟩
 ·rw[if_pos a_minor] at hk;cases hk
 rw[if_neg a_minor] at hk;by_cases a_major:nm=⟨#[109,97,106,111,114]⟩
 ·rw[if_pos a_major] at hk;cases hk
 rw[if_neg a_major] at hk;by_cases a_serial:nm=⟨#[115,101,114,105,97,108]⟩
 ·rw[if_pos a_serial] at hk;cases hk
 rw[if_neg a_serial] at hk;by_cases a_weak:nm=⟨#[119,101,97,107]⟩
 ·rw[if_pos a_weak] at hk;cases hk
 rw[if_neg a_weak] at hk;rw[if_neg h] at hk
 cases hk
theorem D4y {nm:ByteArray} (h:¬nm=⟨#[119,101,97,107]⟩):E8 nm≠.weak:=by
 intro hk;unfold E8 at hk;by_cases a_int:nm=⟨#[105,110,116]⟩
 ·rw[if_pos a_int] at hk;cases hk
 rw[if_neg a_int] at hk;by_cases a_const:nm=⟨#[99,111,110,115,116]⟩
 ·rw[if_pos a_const] at hk;cases hk
 rw[if_neg a_const] at hk;by_cases a_text:nm=⟨#[116,101,120,116]⟩
 ·rw[if_pos a_text] at hk;cases hk
 rw[if_neg a_text] at hk;by_cases a_make:nm=⟨#[109,97,107,101]⟩
 ·rw[if_pos a_make] at hk;cases hk
 rw[if_neg a_make] at hk;by_cases a_copy:nm=⟨#[99,111,112,121]⟩
 ·rw[if_pos a_copy] at hk;cases hk
 rw[if_neg a_copy] at hk;by_cases a_get:nm=⟨#[103,101,116]⟩
 ·rw[if_pos a_get] at hk;cases hk
 rw[if_neg a_get] at hk;by_cases a_put:nm=⟨#[112,117,116]⟩
 ·rw[if_pos a_put] at hk;cases hk
 rw[if_neg a_put] at hk;by_cases a_minor:nm=⟨#[109,105,110,111,114]⟩
 ·rw[if_pos a_minor] at hk;cases hk
 rw[if_neg a_minor] at hk;by_cases a_major:nm=⟨#[109,97,106,111,114]⟩
 ·rw[if_pos a_major] at hk;cases hk
 rw[if_neg a_major] at hk;by_cases a_serial:nm=⟨#[115,101,114,105,97,108]⟩
 ·rw[if_pos a_serial] at hk;cases hk
 rw[if_neg a_serial] at hk;rw[if_neg h] at hk;by_cases a_look:nm=⟨#[108,111,111,107]⟩
 ·rw[if_pos a_look] at hk;cases hk
 rw[if_neg a_look] at hk
 cases hk
theorem C7j {nm:ByteArray} {l:List UInt8} (h:nm=⟨l.toArray⟩):(nm.toList==l)=true:=by
 rw[ByteArray.toList_eq,h];simp
def B0f (w:World) (p:Nat) (x:E4):Prop:=w.cell? ⟨p,0,none⟩=some (.string x.nm)∧w.cell? ⟨p,1,none⟩=some (.int .i64 x.a)∧w.cell? ⟨p,2,none⟩=some (.int .i64 x.b)∧w.cell? ⟨p,3,none⟩=some (.int .i64 x.c)∧w.cell? ⟨p,4,none⟩=some (.int .i64 x.n)∧w.cell? ⟨p,5,none⟩=some (.string x.s)
theorem B0f.keep {w w':World} {p:Nat} {x:E4} {L:Nat→Prop} (h:B0f w p x) (k:A8 L w w') (hp:¬L p):B0f w' p x:=by
 obtain⟨h0,h1,h2,h3,h4,h5⟩:=h;exact⟨k.cell (p:=⟨p,0,none⟩) hp h0,k.cell (p:=⟨p,1,none⟩) hp h1,k.cell (p:=⟨p,2,none⟩) hp h2,k.cell (p:=⟨p,3,none⟩) hp h3,k.cell (p:=⟨p,4,none⟩) hp h4,k.cell (p:=⟨p,5,none⟩) hp h5⟩
theorem B5m.extD {w w':World} {g o:Nat} {x:E4} (h:B5m w g o x) (hx:A0 w w'):B5m w' g o x:=by
 obtain⟨h0,h1,h2,h3,h4,h5⟩:=h;exact⟨hx.cell_ h0,hx.cell_ h1,hx.cell_ h2,hx.cell_ h3,hx.cell_ h4,hx.cell_ h5⟩
theorem B0f.ext {w w':World} {p:Nat} {x:E4} (h:B0f w p x) (k:A0 w w'):B0f w' p x:=h.keep (L:=fun _=>False) (A8.of_ext k) (fun q=>q)
def A8v:Int→List E4→Option Int
 | m,[]=>some m
 | m,x::l=>if x.nm=⟨#[109,97,107,101]⟩∧300<x.c∧x.c≤4096 then none else A8v (wrap64 (m+(x.s.size:Int))) l
def C4c (n:Nat):Option Int→Bool
 | none=>false
 | some m=>decide ((n:Int)≤120)&&decide (m≤3000)
def A8u (l:List E4):Bool:=C4c l.length (A8v 0 l)
theorem D5s {l:List E4} (h:A8u l=true):l.length≤120:=by
 unfold A8u at h
 cases hg:A8v 0 l with
 | none=>rw[hg] at h;cases h
 | some m =>
  rw[hg] at h;have:=of_decide_eq_true (Bool.and_eq_true_iff.1 h).1;omega
theorem D5t (l:List E4) (A:Option Addr) (C:Nat) (w:World) (h:B1h w A l) :
  Calls Zg 26 #[.slice A l.length C] w fun e w'=>e=.returned (.bool (A8u l))∧A0 w w':=by
 have HR:=Hz h;have hln:=h.len;clear h
 go_enter Tryz.func26,Tryz.ntmps26
 go_upto_region 3 with fail
 go_loopg [3,4] (l.length) (fun r n i wr=>∃ (k:Nat) (m:Int),k+r=l.length∧i=.int .i64 (k:Int)∧n=.int .i64 m∧Hid (A8u l=C4c l.length (A8v m (l.drop k)))∧Hid (A0 w wr))
 case atStart=>exact⟨0,0,by omega,rfl,rfl,rfl,A0.refl _⟩
 case round =>
  obtain⟨k,m,hk,rfl,rfl,hG,hE⟩:=hrel;have hsz:=hE.out.size
  cases gk with
  | succ r =>
   have hlt:k<l.length:=by omega
   have hltz:(k:Int)<(l.length:Int):=by omega
   obtain⟨g,o,hfe,c0,c1,c2,c3,c4,c5⟩:=(HR.out.ext hE.out).at_ k hlt;subst hfe;have hdr:l.drop k=l[k]::l.drop (k+1):=List.drop_eq_getElem_cons hlt;rw[hdr] at hG;clear hdr;generalize l[k]=x at *
   have HK:=Hz hk;by_cases hm:x.nm=⟨#[109,97,107,101]⟩
   ·rw[hm] at c0;by_cases h1:300<x.c
    ·by_cases h2:x.c≤4096
     ·go_wp2;go_ret;rw[hG.out];unfold A8v;rw[if_pos ⟨hm,by omega,by omega⟩];exact⟨rfl,hE.out⟩
     ·go_wp2
      go_roundg r
      case measure=>omega
      case rel=>exact⟨k+1,_,by have:=HK.out;omega,by go_num,rfl,by have hg:=hG.out;unfold A8v at hg;rw[if_neg (fun q=>absurd q.2 (by omega))] at hg;exact hg,hE.out⟩
    ·go_wp2
     go_roundg r
     case measure=>omega
     case rel=>exact⟨k+1,_,by have:=HK.out;omega,by go_num,rfl,by have hg:=hG.out;unfold A8v at hg;rw[if_neg (fun q=>absurd q.2 (by omega))] at hg;exact hg,hE.out⟩
   ·have hm2:(x.nm.toList==[109,97,107,101])=false:=A3v hm;go_wp2
    go_roundg r
    case measure=>omega
    case rel=>exact⟨k+1,_,by have:=HK.out;omega,by go_num,rfl,by have hg:=hG.out;unfold A8v at hg;rw[if_neg (fun q=>hm q.1)] at hg;exact hg,hE.out⟩
  | zero =>
   obtain rfl:k=l.length:=by omega
   have hb:A8u l=(decide ((l.length:Int)≤120)&&decide (m≤3000)):=by have hg:=hG.out;rw[List.drop_length] at hg;exact hg
   have HBE:=Hz hb;clear hb hG;have hltz:¬((l.length:Nat):Int)<(l.length:Int):=by omega
   clear hk;by_cases h1:(l.length:Int)≤120
   ·by_cases h2:m≤3000
    ·go_wp2;go_ret;rw[HBE.out,decide_eq_true (show (l.length:Int)≤120 by omega),decide_eq_true (show m≤3000 by omega)];exact⟨rfl,hE.out⟩
    ·go_wp2;go_ret;rw[HBE.out,decide_eq_true (show (l.length:Int)≤120 by omega),decide_eq_false (show ¬m≤3000 by omega)];exact⟨rfl,hE.out⟩
   ·go_wp2;go_ret;rw[HBE.out,decide_eq_false (show ¬(l.length:Int)≤120 by omega)];exact⟨rfl,hE.out⟩
theorem F7l {a b:ByteArray} (h:a≠b):(a.toList==b.toList)=false:=by
 cases hb:(a.toList==b.toList) with
 | false=>rfl
 | true=>exact absurd (by
   have e:a.toList=b.toList:=by simpa using hb
   rw[ByteArray.toList_eq,ByteArray.toList_eq] at e;obtain⟨⟨x⟩⟩:=a;obtain⟨⟨y⟩⟩:=b;have:x=y:=e;rw[this]) h
theorem E3n (l:List ByteArray) (nm:ByteArray) (A:Option Addr) (C:Nat) (w:World) (hR:F7 w A (l.map .string)) (hl:l.length≤1000) :
  Calls Zg 125 #[.slice A l.length C,.string nm] w fun e w'=>∃ r:Int,e=.returned (.int .i64 r)∧(0≤r↔nm∈l)∧A0 w w':=by
 have HR:=Hz hR;have HL:=Hz hl;clear hR hl
 go_enter Tryz.func125,Tryz.ntmps125
 go_wp2
 go_loopg [5] (l.length) (fun r i wr=>∃ k:Nat,k+r=l.length∧i=.int .i64 (k:Int)∧Hid (∀ j,(hj:j<l.length)→j<k→l[j]≠nm)∧Hid (A0 w wr))
 case atStart=>exact⟨0,by omega,rfl,fun j hj h0=>by omega,A0.refl w⟩
 case round =>
  obtain⟨k,hk,rfl,HN,HE⟩:=hrel;have hln:=HL.out
  cases gk with
  | succ r =>
   have hlt:k<l.length:=by omega
   have hltz:(k:Int)<(l.length:Int):=by omega
   obtain⟨g,o,hA,hc⟩:=HR.out.ext HE.out k (.string l[k]) (by rw[List.getElem?_map,Zc hlt];rfl);have f1:IntKind.i64.wrap ((k:Int)+1)=((k+1:Nat):Int):=by rw[IntWalk.i64_in _ (by omega)];omega
   subst hA;have HK:=Hz hk;by_cases e:l[k]=nm
   ·have HM:Hid (nm∈l):=e ▸ List.getElem_mem hlt;rw[e] at hc;clear e hk hln;go_wp2;go_ret;exact⟨_,rfl,⟨fun _=>HM.out,fun _=>by omega⟩,HE.out⟩
   ·have ne:=F7l e;have HX:Hid (∀ j,(hj:j<l.length)→j<k+1→l[j]≠nm):=fun j hj h1=>by
     by_cases q:j=k
     ·subst q;exact e
     ·exact HN.out j hj (by omega)
    clear e hk hln;generalize l[k]=s at *
    go_wp2
    go_roundg r
    case measure=>omega
    case rel=>exact⟨k+1,by have:=HK.out;omega,by go_num,HX,HE.out⟩
  | zero =>
   obtain rfl:k=l.length:=by omega
   have hltz:¬((l.length:Nat):Int)<(l.length:Int):=by omega
   go_wp2;go_ret;refine⟨_,rfl,⟨fun h=>by omega,fun h=>?_⟩,HE.out⟩;obtain⟨j,hj,e⟩:=List.mem_iff_getElem.1 h;exact absurd e (HN.out j hj hj)
def B1j:List ByteArray:=[⟨#[105,110,116]⟩,⟨#[99,111,110,115,116]⟩,⟨#[116,101,120,116]⟩,⟨#[109,97,107,101]⟩,⟨#[99,111,112,121]⟩,⟨#[103,101,116]⟩,⟨#[112,117,116]⟩,⟨#[109,105,110,111,114]⟩,⟨#[109,97,106,111,114]⟩,⟨#[115,101,114,105,97,108]⟩,⟨#[119,101,97,107]⟩,⟨#[108,111,111,107]⟩]
theorem E4m (nm:ByteArray):nm∈B1j↔E8 nm≠.other:=by
 constructor
 ·unfold B1j;simp only[Zd,Zf,or_false];rintro (rfl|rfl|rfl|rfl|rfl|rfl|rfl|rfl|rfl|rfl|rfl|rfl)
  ·rw[show E8 ⟨#[105,110,116]⟩=.int from rfl];intro h;cases h
  ·rw[show E8 ⟨#[99,111,110,115,116]⟩=.const from rfl];intro h;cases h
  ·rw[show E8 ⟨#[116,101,120,116]⟩=.text from rfl];intro h;cases h
  ·rw[show E8 ⟨#[109,97,107,101]⟩=.make from rfl];intro h;cases h
  ·rw[show E8 ⟨#[99,111,112,121]⟩=.copy from rfl];intro h;cases h
  ·rw[show E8 ⟨#[103,101,116]⟩=.get from rfl];intro h;cases h
  ·rw[show E8 ⟨#[112,117,116]⟩=.put from rfl];intro h;cases h
  ·rw[show E8 ⟨#[109,105,110,111,114]⟩=.minor from rfl];intro h;cases h
  ·rw[show E8 ⟨#[109,97,106,111,114]⟩=.major from rfl];intro h;cases h
  ·rw[show E8 ⟨#[115,101,114,105,97,108]⟩=.serial from rfl];intro h;cases h
  ·rw[show E8 ⟨#[119,101,97,107]⟩=.weak from rfl];intro h;cases h
  ·rw[show E8 ⟨#[108,111,111,107]⟩=.look from rfl];intro h;cases h
 ·intro h;apply Classical.byContradiction;unfold B1j;intro q;simp only[Zd,Zf,or_false,not_or] at q;obtain⟨q0,q1,q2,q3,q4,q5,q6,q7,q8,q9,q10,q11⟩:=q;unfold E8 at h;rw[if_neg q0,if_neg q1,if_neg q2,if_neg q3,if_neg q4,if_neg q5,if_neg q6,if_neg q7,if_neg q8,if_neg q9,if_neg q10,if_neg q11] at h;exact h rfl
theorem E1v (l:List ByteArray) (nm:ByteArray) (A:Option Addr) (C:Nat) (w:World) (hR:F7 w A (l.map .string)) (hl:l.length≤1000) :
  Calls Zg 73 #[.slice A l.length C,.string nm] w fun e w'=>∃ bb:Bool,e=.returned (.bool bb)∧(bb=true↔nm∈l)∧A0 w w':=by
 have HC:=Hz (E3n l nm A C w hR hl);clear hR hl
 go_enter Tryz.func73,Tryz.ntmps73
 go_wp2_with (go_at_call 125;refine HC.out.mono ?_;rintro e w1 ⟨r,rfl,hi,hq⟩;have HI:=Hz hi;have HX:=Hz hq;clear hi hq)
 go_ret;refine⟨_,rfl,?_,HX.out⟩;rw[decide_eq_true_eq];exact HI.out
theorem E4n (nm:ByteArray) (w:World):Calls Zg 29 #[.string nm] w fun e w'=>∃ bb:Bool,e=.returned (.bool bb)∧(bb=true↔E8 nm≠.other)∧A0 w w':=by
 have HC:Hid (∀ w' g,(∀ j u,(B1j.map Value.string)[j]?=some u→w'.cell? ⟨g,j,none⟩=some u)→Calls Zg 73 #[.slice (some ⟨g,0,none⟩) 12 12,.string nm] w' fun e w''=>∃ bb:Bool,e=.returned (.bool bb)∧(bb=true↔E8 nm≠.other)∧A0 w' w''):=fun w' g hc=>by
  have h:=E1v B1j nm (some ⟨g,0,none⟩) 12 w' (fun j u hu=>⟨g,0,rfl,by rw[Nat.zero_add];exact hc j u hu⟩) (by decide);rw[E4m] at h;exact h
 go_enter Tryz.func29,Tryz.ntmps29
 go_wp2_with (go_at_call 73;refine (HC.out _ _ (fun j u hu=>?_)).mono ?_;rotate_left;rintro e w1 ⟨bb,rfl,hb,hq⟩;have HB:=Hz hb;have HX:=Hz hq;clear hb hq)
 go_ret;exact⟨_,rfl,HB.out,A0.trans_ eX HX.out⟩;rw[World.cell?,heap_alloc_new];rw[←hu];simp[B1j]
def A2j (tI:TypeId) (M:A7) (a:Option Addr) (k c:Nat):List I6:=[⟨9,tI,2,a,k,c,G0 (M.ids.take k)⟩]
def A4n (W:World) (bo:Nat) (M:A7) (S:C8):Prop :=
 W.cell? ⟨bo,3,none⟩=some (.slice S.W.1 M.W.length S.W.2)∧W.cell? ⟨bo,7,none⟩=some (.slice S.R.1 M.roots.length S.R.2)∧W.cell? ⟨bo,8,none⟩=some (.slice S.K.1 M.weak.length S.K.2)∧W.cell? ⟨bo,10,none⟩=some (.slice S.C.1 M.cards.length S.C.2)
theorem A4n.of_block {W W':World} {bo:Nat} {M:A7} {S:C8} (h:A4n W bo M S) (hb:W'.heap[bo]?=W.heap[bo]?):A4n W' bo M S:=by
 obtain⟨h1,h2,h3,h4⟩:=h;refine⟨?_,?_,?_,?_⟩
 ·rw[Zh (w:=W) (a:=⟨bo,3,none⟩) hb];exact h1
 ·rw[Zh (w:=W) (a:=⟨bo,7,none⟩) hb];exact h2
 ·rw[Zh (w:=W) (a:=⟨bo,8,none⟩) hb];exact h3
 ·rw[Zh (w:=W) (a:=⟨bo,10,none⟩) hb];exact h4
theorem A4n.set9 {W:World} {bo:Nat} {M:A7} {S:C8} (h:A4n W bo M S) (u:Value):A4n (W.setCell ⟨bo,9,none⟩ u) bo M S:=by
 obtain⟨h1,h2,h3,h4⟩:=h;exact⟨by rw[J4 (by decide)];exact h1,by rw[J4 (by decide)];exact h2,by rw[J4 (by decide)];exact h3,by rw[J4 (by decide)];exact h4⟩
theorem D0c (W:World) (tI t:TypeId) (M:A7) (S:C8) :
  OM (W.alloc (.cells #[Value.int .i64 M.half,.int .i64 M.old,.int .i64 M.card,.slice S.W.1 M.W.length S.W.2,.int .i64 M.used,.int .i64 M.top,.int .i64 M.oldTop,.slice S.R.1 M.roots.length S.R.2,.slice S.K.1 M.weak.length S.K.2,.slice none 0 0,.slice S.C.1 M.cards.length S.C.2] t)) W.heap.size W.heap.size (L5 M) (A2j tI M none 0 0)∧A4n (W.alloc (.cells #[Value.int .i64 M.half,.int .i64 M.old,.int .i64 M.card,.slice S.W.1 M.W.length S.W.2,.int .i64 M.used,.int .i64 M.top,.int .i64 M.oldTop,.slice S.R.1 M.roots.length S.R.2,.slice S.K.1 M.weak.length S.K.2,.slice none 0 0,.slice S.C.1 M.cards.length S.C.2] t)) W.heap.size M S:=by
 have hc:∀ j v,(#[Value.int .i64 M.half,.int .i64 M.old,.int .i64 M.card,.slice S.W.1 M.W.length S.W.2,.int .i64 M.used,.int .i64 M.top,.int .i64 M.oldTop,.slice S.R.1 M.roots.length S.R.2,.slice S.K.1 M.weak.length S.K.2,.slice none 0 0,.slice S.C.1 M.cards.length S.C.2]:Array Value)[j]?=some v→(W.alloc (.cells #[Value.int .i64 M.half,.int .i64 M.old,.int .i64 M.card,.slice S.W.1 M.W.length S.W.2,.int .i64 M.used,.int .i64 M.top,.int .i64 M.oldTop,.slice S.R.1 M.roots.length S.R.2,.slice S.K.1 M.weak.length S.K.2,.slice none 0 0,.slice S.C.1 M.cards.length S.C.2] t)).cell? ⟨W.heap.size,j,none⟩=some v:=fun j v hv=>by
  rw[cell_of_row _ W.heap.size j _ t (0,0) (heap_alloc_new W _)];exact hv
 refine⟨⟨Nat.le_refl _,⟨_,t,heap_alloc_new W _⟩,fun p hp=>?_,fun f hf=>?_,by simp[A2j],by simp[L5,A2j]⟩,hc _ _ rfl,hc _ _ rfl,hc _ _ rfl,hc _ _ rfl⟩
 ·simp only[L5,Zd,Zf,or_false] at hp;rcases hp with rfl|rfl|rfl|rfl|rfl|rfl<;>exact hc _ _ rfl
 ·simp only[A2j,Zd,Zf,or_false] at hf;subst hf;exact⟨hc _ _ rfl,by show World.ownsRow _ _ _ _ (Value.slice none 0 0) 0 [];exact World.ownsRow_nil _ _ _ _,by simp[I6.val,Value.ownBlock]⟩
theorem F0s {w wr:World} {b o B bo:Nat} {tI:TypeId} {M:A7} {S:C8} {a:Option Addr} {c:Nat} (hM:G8 w b o M S) (hE:A0 w wr) (hO:OM wr B bo (L5 M) (A2j tI M a M.ids.length c)) (hR:A4n wr bo M S) :
  G8 wr bo 0 M ⟨S.W,S.R,S.K,(a,c),S.C⟩:=by
 have h1:=hM.ext hE;have hn:=hO.num;have q9:=hO.fld ⟨9,tI,2,a,M.ids.length,c,G0 (M.ids.take M.ids.length)⟩ (by simp[A2j]);obtain⟨r9,c9,n9⟩:=R4 q9.2.1;rw[List.take_length] at r9;have e:∀ j:Nat,(⟨bo,0+j,none⟩:Addr)=⟨bo,j,none⟩:=fun j=>by rw[Nat.zero_add]
 obtain⟨k3,k7,k8,k10⟩:=hR;refine⟨?_,?_,?_,?_,?_,?_,?_,?_,?_,?_,?_,h1.rW,h1.rR,h1.rK,r9,h1.rC,h1.capW,h1.capR,h1.capK,c9,h1.capC,h1.nilW,h1.nilR,h1.nilK,n9,h1.nilC,h1.ok⟩
 ·exact hn _ (Ze (l:=L5 M) (i:=0) rfl)
 ·rw[e];exact hn _ (Ze (l:=L5 M) (i:=1) rfl)
 ·rw[e];exact hn _ (Ze (l:=L5 M) (i:=2) rfl)
 ·rw[e];exact k3
 ·rw[e];exact hn _ (Ze (l:=L5 M) (i:=3) rfl)
 ·rw[e];exact hn _ (Ze (l:=L5 M) (i:=4) rfl)
 ·rw[e];exact hn _ (Ze (l:=L5 M) (i:=5) rfl)
 ·rw[e];exact k7
 ·rw[e];exact k8
 ·rw[e];exact q9.1
 ·rw[e];exact k10
def D3u (w:World) (M:A7) (e:Ending) (w':World):Prop :=
 ∃ B b S,e=.returned (.pointer (some ⟨b,0,none⟩))∧B7 w' B b 138 M S∧w.heap.size≤B∧A0 w w'
theorem E5x (b o:Nat) (M:A7) (S:C8) (w:World) (hM:G8 w b o M S) (hF:Few M) :
  Calls Zg 36 #[.pointer (some ⟨b,o,none⟩)] w (D3u w M):=by
 obtain⟨i3,hi3,h3a,h3b,h3c⟩:=info_parts C6v;have HM:=Hz hM;have HF:=Hz hF;have hltx:=hM.lt;have n0:=hM.half;have n1:=hM.old;have n2:=hM.card;have n3:=hM.W;have n4:=hM.used;have n5:=hM.top;have n6:=hM.oldTop;have n7:=hM.roots;have n8:=hM.weak;have n10:=hM.cards;have n9:=hM.ids;have hI:=hM.rI;have HI:=Hz hI;have hlI:M.ids.length≤1000000:=HF.out.I;clear hM hF hI
 go_enter Tryz.func36,Tryz.ntmps36
 go_wp2;refine wp_region_held_drew (S:=fun W=>W.cell? ⟨b,o,none⟩=some (.int .i64 M.half)∧W.cell? ⟨b,o+1,none⟩=some (.int .i64 M.old)∧W.cell? ⟨b,o+2,none⟩=some (.int .i64 M.card)∧W.cell? ⟨b,o+3,none⟩=some (.slice S.W.1 M.W.length S.W.2)∧W.cell? ⟨b,o+4,none⟩=some (.int .i64 M.used)∧W.cell? ⟨b,o+5,none⟩=some (.int .i64 M.top)∧W.cell? ⟨b,o+6,none⟩=some (.int .i64 M.oldTop)∧W.cell? ⟨b,o+7,none⟩=some (.slice S.R.1 M.roots.length S.R.2)∧W.cell? ⟨b,o+8,none⟩=some (.slice S.K.1 M.weak.length S.K.2)∧W.cell? ⟨b,o+10,none⟩=some (.slice S.C.1 M.cards.length S.C.2)) (by kernel_rfl) ?_ (fun hH=>?_)
 ·exact⟨n0,n1,n2,n3,n4,n5,n6,n7,n8,n10⟩
 refine tJ 0 7 rfl ?_
 try simp only[A5]
 refine tJ 1 8 rfl ?_
 try simp only[A5]
 refine tJ 2 9 rfl ?_
 try simp only[A5]
 refine tJ 3 10 rfl ?_
 try simp only[A5]
 refine tJ 4 11 rfl ?_
 try simp only[A5]
 refine tJ 5 12 rfl ?_
 try simp only[A5]
 refine tJ 6 13 rfl ?_
 try simp only[A5]
 refine tJ 7 14 rfl ?_
 try simp only[A5]
 refine tJ 8 15 rfl ?_
 try simp only[A5]
 refine tJ 9 16 rfl ?_
 try simp only[A5]
 refine tJ 10 17 rfl ?_
 try simp only[A5]
 refine tJ 11 18 rfl ?_
 try simp only[A5]
 refine tJ 12 19 rfl ?_
 try simp only[A5]
 refine tJ 13 20 rfl ?_
 try simp only[A5]
 refine tJ 14 21 rfl ?_
 try simp only[A5]
 refine tJ 15 22 rfl ?_
 try simp only[A5]
 refine tJ 16 23 rfl ?_
 try simp only[A5]
 refine tJ 17 24 rfl ?_
 try simp only[A5]
 refine tJ 18 25 rfl ?_
 try simp only[A5]
 refine tJ 19 26 rfl ?_
 try simp only[A5]
 refine tJ 20 27 rfl ?_
 try simp only[A5]
 refine tJ 21 28 rfl ?_
 try simp only[A5]
 refine tJ 22 29 rfl ?_
 try simp only[A5]
 refine tJ 23 30 rfl ?_
 try simp only[A5]
 refine tJ 24 31 rfl ?_
 try simp only[A5]
 refine tJ 25 32 rfl ?_
 try simp only[A5]
 refine tJ 26 33 rfl ?_
 try simp only[A5]
 refine tJ 27 34 rfl ?_
 try simp only[A5]
 refine tJ 28 35 rfl ?_
 try simp only[A5]
 refine tJ 29 36 rfl ?_
 try simp only[A5]
 refine tJ 30 37 rfl ?_
 try simp only[A5]
 refine tJ 31 38 rfl ?_
 try simp only[A5]
 refine tJ 32 39 rfl ?_
 try simp only[A5]
 refine tJ 33 40 rfl ?_
 try simp only[A5]
 refine tJ 34 41 rfl ?_
 try simp only[A5]
 refine tJ 35 42 rfl ?_
 try simp only[A5]
 refine tJ 36 43 rfl ?_
 try simp only[A5]
 refine tJ 37 44 rfl ?_
 try simp only[A5]
 refine tJ 38 45 rfl ?_
 try simp only[A5]
 refine tJ 39 46 rfl ?_
 try simp only[A5]
 refine tJ 40 47 rfl ?_
 try simp only[A5]
 refine wpAnyH_ready (rs:=[41]) (by kernel_rfl) (by simp) ?_;refine AllReadyH.cons (o:=⟨some 48,_,_,_,_,_⟩) rfl (fun K hK=>?_) AllReadyH.nil;go_simp;skip;refine hK.out _ _ ?_ (fun hH=>?_)
 ·(try dsimp only);exact⟨A0.cell_ (w:=w) eX n0,A0.cell_ (w:=w) eX n1,A0.cell_ (w:=w) eX n2,A0.cell_ (w:=w) eX n3,A0.cell_ (w:=w) eX n4,A0.cell_ (w:=w) eX n5,A0.cell_ (w:=w) eX n6,A0.cell_ (w:=w) eX n7,A0.cell_ (w:=w) eX n8,A0.cell_ (w:=w) eX n10⟩
 clear hK K
 try simp only[A5]
 refine tJ 42 3 rfl ?_
 try simp only[A5]
 refine wpAnyH_done (by kernel_rfl) ?_ _;clear n0 n1 n2 n3 n4 n5 n6 n7 n8 n10 hH;go_wp2;refine P4 (fun W1 hW1=>?_);have hE1:A0 w W1:=by rw[hW1];exact ((A0.refl w).alloc_ _).drew_
 have hO1:OM W1 w.heap.size w.heap.size (L5 M) (A2j 138 M none 0 0):=by rw[hW1];exact (D0c w _ _ M S).1.ext (A0.refl _).drew_
 have hR1:A4n W1 w.heap.size M S:=by rw[hW1];exact (D0c w 138 _ M S).2.of_block (((A0.refl _).drew_).block _ (by simp))
 have HE1:=Hz hE1;have HO1:=Hz hO1;have HR1:=Hz hR1;obtain⟨bo,hbo⟩:∃ bo,w.heap.size=bo:=⟨_,rfl⟩;have HO2:Hid (OM W1 w.heap.size bo (L5 M) (A2j 138 M none 0 0)):=hbo ▸ HO1;have HR2:Hid (A4n W1 bo M S):=hbo ▸ HR1;rw[hbo] at hltx
 try rw[hbo]
 clear hW1 hE1 hO1 hR1 HO1 HR1
 go_loopw [4] (fun i wr=>∃ (k:Nat) (a:Option Addr) (c:Nat),k≤M.ids.length∧i=.int .i64 (k:Int)∧Hid (OM wr w.heap.size bo (L5 M) (A2j 138 M a k c))∧Hid (A4n wr bo M S)∧Hid (A0 w wr)∧Hid (∀ g,(Value.slice a k c).ownBlock=some g→bo≤g)) (fun i _=>M.ids.length-(intOf i).toNat)
 case atStart=>exact⟨0,none,0,Nat.zero_le _,rfl,HO2.out,HR2.out,HE1.out,fun g hg=>by simp[Value.ownBlock] at hg⟩
 case round =>
  obtain⟨k,a,c,hk,rfl,hO,hR,hE,hB⟩:=hrel;have f2:=hE.out.cell_ n9;by_cases hlt:k<M.ids.length
  ·obtain⟨e1,e2⟩:=A6u M.ids k hlt;obtain⟨ib,io,q1,k1⟩:=HI.out _ _ e1;have l1:w.cell? ⟨ib,io+k*2+1,none⟩=some (.int .i64 M.ids[k].2):=by
    have:=F7.at_ (q1 ▸ HI.out) e2;rw[←Nat.add_assoc] at this;exact this
   rw[q1] at f2;have f3:=hE.out.cell_ k1;have f4:=hE.out.cell_ l1;have f1:wr.cell? ⟨bo,9,none⟩=some (.slice a k c):=(hO.out.fld ⟨9,138,2,a,k,c,G0 (M.ids.take k)⟩ (by simp[A2j])).1;have hltz:(k:Int)<(M.ids.length:Int):=by omega
   have HY:Hid (M.ids.take (k+1)=M.ids.take k++[M.ids[k]]):=Hz (List.take_succ_eq_append_getElem hlt);generalize M.ids[k]=y at *
   obtain⟨y1,y2⟩:=y;have n9':w.cell? ⟨b,o+9,none⟩=some (.slice (some ⟨ib,io,none⟩) M.ids.length S.I.2):=by rw[←q1];exact n9
   have HN9:=Hz n9';have HK1:=Hz k1;have HL1:=Hz l1;have hlo:=hO.out.lt;have hltb:ib<bo:=by rw[←hbo];exact B9 k1
   clear e1 e2 q1 n9 k1 l1 n9';go_wp2;refine wp_region_held_drew (S:=fun W=>W.cell? ⟨b,o+9,none⟩=some (.slice (some ⟨ib,io,none⟩) M.ids.length S.I.2)∧W.cell? ⟨ib,io+k*2,none⟩=some (.int .u64 y1)∧W.cell? ⟨ib,io+k*2+1,none⟩=some (.int .i64 y2)) (by kernel_rfl) ?_ (fun hH=>?_)
   ·exact⟨f2,f3,f4⟩
   refine tJ 0 58 rfl ?_
   try simp only[A5]
   refine tJ 1 59 rfl ?_
   try simp only[A5]
   refine tJ 2 60 rfl ?_
   try simp only[A5]
   refine tJ 3 61 rfl ?_
   try simp only[A5]
   refine tJ 5 63 rfl ?_
   try simp only[A5]
   refine tJ 6 64 rfl ?_
   try simp only[A5]
   refine tJ 7 65 rfl ?_
   try simp only[A5]
   refine tJ 8 66 rfl ?_
   try simp only[A5]
   refine tJ 9 67 rfl ?_
   try simp only[A5]
   refine tJ 10 68 rfl ?_
   try simp only[A5]
   refine tJ 11 69 rfl ?_
   try simp only[A5]
   refine tJ 12 70 rfl ?_
   try simp only[A5]
   refine tJ 13 71 rfl ?_
   try simp only[A5]
   refine tJ 14 72 rfl ?_
   try simp only[A5]
   refine tJ 15 73 rfl ?_
   try simp only[A5]
   refine tJ 16 74 rfl ?_
   try simp only[A5]
   refine tJ 17 75 rfl ?_
   try simp only[A5]
   refine tJ 18 76 rfl ?_
   try simp only[A5]
   refine tJ 19 77 rfl ?_
   try simp only[A5]
   refine tJ 20 78 rfl ?_
   try simp only[A5]
   refine tJ 21 79 rfl ?_
   try simp only[A5]
   refine wpAnyH_ready (rs:=[4,22]) (by kernel_rfl) (by simp) ?_;refine AllReadyH.cons (o:=⟨some 62,_,_,_,_,_⟩) rfl (fun K hK=>?_) (AllReadyH.cons (o:=⟨some 80,_,_,_,_,_⟩) rfl (fun K hK=>?_) AllReadyH.nil)
   ·skip;go_simp;refine hK.out _ _ ?_ (fun hH=>?_)
    ·(try dsimp only);exact⟨A0.cell_ (w:=wr) eX f2,A0.cell_ (w:=wr) eX f3,A0.cell_ (w:=wr) eX f4⟩
    clear hK K
    try simp only[A5]
    refine wpAnyH_ready (rs:=[22]) (by kernel_rfl) (by simp) ?_;refine AllReadyH.cons (o:=⟨some 80,_,_,_,_,_⟩) rfl (fun K hK=>?_) AllReadyH.nil;go_simp;skip;refine hK.out _ _ ?_ (fun hH=>?_)
    ·(try dsimp only);exact⟨A0.cell_ (w:=wr) eX f2,A0.cell_ (w:=wr) eX f3,A0.cell_ (w:=wr) eX f4⟩
    clear hK K
    try simp only[A5]
    refine wpAnyH_ready (rs:=[23]) (by kernel_rfl) (by simp) ?_;refine AllReadyH.cons (o:=⟨some 81,_,_,_,_,_⟩) rfl (fun K hK=>?_) AllReadyH.nil;have hOW:OM (wr.alloc (.cells #[.int .u64 y1,.int .i64 y2] 138)).drew w.heap.size bo (L5 M) (A2j 138 M a k c):=hO.out.ext ((A0.refl wr).alloc_ _).drew_;have hE2:A0 w (wr.alloc (.cells #[.int .u64 y1,.int .i64 y2] 138)).drew:=A0.trans_ hE.out ((A0.refl wr).alloc_ _).drew_;have hRW:A4n (wr.alloc (.cells #[.int .u64 y1,.int .i64 y2] 138)).drew bo M S:=hR.out.of_block (((A0.refl wr).alloc_ _).drew_.block bo hO.out.lt);have hfl:=hOW.fld ⟨9,138,2,a,k,c,G0 (M.ids.take k)⟩ (by simp[A2j]);refine A5b (by rfl) _ _ 132 (by rfl) w.heap.size 138 i3 (.agg #[.int .u64 0,.int .i64 0]) 2 16 C3f hi3 h3a h3b h3c (by rfl) (by decide) (.slice a k c) k (G0 (M.ids.take k)) (by rfl) hfl.2.1 (some ⟨wr.heap.size,0,none⟩) 1 1 (G0 [(y1,y2)]) (by rfl) (fun e=>by cases e) (Nat.le_refl _) (by rfl) (D1f wr _ y1 y2) (B6t _) (by unfold maxLen;omega) (by omega) hE2.size ?_;intro a2 c2 v2 hown hgrow hat
    have hx:A0 w v2:=Below.grown hE2 hgrow hE2.size (fun g hg=>by rw[hbo];exact hB.out g hg);have hbk:=hgrow.block bo hOW.lt (fun e=>hfl.2.2 e.symm);have hRv:=hRW.of_block hbk;have y1c:v2.cell? ⟨bo,9,none⟩=some (.slice a k c):=by rw[Zh (w:=(wr.alloc (.cells #[.int .u64 y1,.int .i64 y2] 138)).drew) (a:=⟨bo,9,none⟩) hbk];exact hfl.1
    have y2c:v2.frozen? ⟨bo,9,none⟩=false:=by rw[Zj (w:=(wr.alloc (.cells #[.int .u64 y1,.int .i64 y2] 138)).drew) (a:=⟨bo,9,none⟩) hbk];exact hOW.frozen 9
    have g2:=hx.cell_ HN9.out;have g3:=hx.cell_ HK1.out;have g4:=hx.cell_ HL1.out;have OW:=Hz hown;have HG:=Hz hgrow;have HAT:=Hz hat
    have HX:=Hz hx;have HOW:=Hz hOW;have HRV:=Hz hRv;clear hown hgrow hat hx hOW hE2 hfl hbk hRW hRv;refine hK.out _ _ ?_ (fun hH=>?_)
    ·(try dsimp only);exact⟨g2,g3,g4⟩
    clear hK K
    try simp only[A5]
    refine tJ 24 82 rfl ?_
    try simp only[A5]
    refine tJ 25 83 rfl ?_
    try simp only[A5]
    refine wpAnyH_ready (rs:=[26]) (by kernel_rfl) (by simp) ?_;refine AllReadyH.cons (o:=⟨none,_,_,_,_,_⟩) rfl (fun K hK=>?_) AllReadyH.nil;go_simp;skip;refine hK.out _ _ ?_ (fun hH=>?_)
    ·(try dsimp only);exact⟨by rw[Zi _ _ _ _ (by simp;omega)];exact g2,by rw[Zi _ _ _ _ (by simp;omega)];exact g3,by rw[Zi _ _ _ _ (by simp;omega)];exact g4⟩
    clear hK K
    try simp only[A5]
    refine wpAnyH_done (by kernel_rfl) ?_ _;have hN:OM (v2.setCell ⟨bo,9,none⟩ (.slice a2 (k+1) c2)) w.heap.size bo (L5 M) (A2j 138 M a2 (k+1) c2):=by
     have h:=OM.push (L1:=[]) (L2:=[]) (f:=⟨9,138,2,a,k,c,G0 (M.ids.take k)⟩) HOW.out a2 (k+1) c2 _ HG.out OW.out HAT.out;unfold A2j;rw[HY.out,show G0 (M.ids.take k++[(y1,y2)])=G0 (M.ids.take k)++G0 [(y1,y2)] from by simp[G0]];exact h
    have hsz2:bo≤(wr.alloc (.cells #[.int .u64 y1,.int .i64 y2] 138)).drew.heap.size:=by have:=HOW.out.lt;omega
    clear hH y1c y2c g2 g3 g4 f1 f2 f3 f4;have HNN:=Hz hN;have HS2:=Hz hsz2;clear hN hsz2;go_wp2;refine⟨⟨k+1,a2,c2,by omega,by go_num,HNN.out,HRV.out.set9 _,A0.set_ HX.out (by simp;omega) _,fun g hg=>?_⟩,by simp[intOf];omega⟩;rcases HAT.out with e|e
    ·exact hB.out g (e ▸ hg)
    ·rw[e] at hg;injection hg with hg;rw[←hg];exact HS2.out
   ·skip;go_simp;refine hK.out _ _ ?_ (fun hH=>?_)
    ·(try dsimp only);exact⟨A0.cell_ (w:=wr) eX f2,A0.cell_ (w:=wr) eX f3,A0.cell_ (w:=wr) eX f4⟩
    clear hK K
    try simp only[A5]
    refine wpAnyH_ready (rs:=[4]) (by kernel_rfl) (by simp) ?_;refine AllReadyH.cons (o:=⟨some 62,_,_,_,_,_⟩) rfl (fun K hK=>?_) AllReadyH.nil;go_simp;skip;refine hK.out _ _ ?_ (fun hH=>?_)
    ·(try dsimp only);exact⟨A0.cell_ (w:=wr) eX f2,A0.cell_ (w:=wr) eX f3,A0.cell_ (w:=wr) eX f4⟩
    clear hK K
    try simp only[A5]
    refine wpAnyH_ready (rs:=[23]) (by kernel_rfl) (by simp) ?_;refine AllReadyH.cons (o:=⟨some 81,_,_,_,_,_⟩) rfl (fun K hK=>?_) AllReadyH.nil;have hOW:OM (wr.alloc (.cells #[.int .u64 y1,.int .i64 y2] 138)).drew w.heap.size bo (L5 M) (A2j 138 M a k c):=hO.out.ext ((A0.refl wr).alloc_ _).drew_;have hE2:A0 w (wr.alloc (.cells #[.int .u64 y1,.int .i64 y2] 138)).drew:=A0.trans_ hE.out ((A0.refl wr).alloc_ _).drew_;have hRW:A4n (wr.alloc (.cells #[.int .u64 y1,.int .i64 y2] 138)).drew bo M S:=hR.out.of_block (((A0.refl wr).alloc_ _).drew_.block bo hO.out.lt);have hfl:=hOW.fld ⟨9,138,2,a,k,c,G0 (M.ids.take k)⟩ (by simp[A2j]);refine A5b (by rfl) _ _ 132 (by rfl) w.heap.size 138 i3 (.agg #[.int .u64 0,.int .i64 0]) 2 16 C3f hi3 h3a h3b h3c (by rfl) (by decide) (.slice a k c) k (G0 (M.ids.take k)) (by rfl) hfl.2.1 (some ⟨wr.heap.size,0,none⟩) 1 1 (G0 [(y1,y2)]) (by rfl) (fun e=>by cases e) (Nat.le_refl _) (by rfl) (D1f wr _ y1 y2) (B6t _) (by unfold maxLen;omega) (by omega) hE2.size ?_;intro a2 c2 v2 hown hgrow hat
    have hx:A0 w v2:=Below.grown hE2 hgrow hE2.size (fun g hg=>by rw[hbo];exact hB.out g hg);have hbk:=hgrow.block bo hOW.lt (fun e=>hfl.2.2 e.symm);have hRv:=hRW.of_block hbk;have y1c:v2.cell? ⟨bo,9,none⟩=some (.slice a k c):=by rw[Zh (w:=(wr.alloc (.cells #[.int .u64 y1,.int .i64 y2] 138)).drew) (a:=⟨bo,9,none⟩) hbk];exact hfl.1
    have y2c:v2.frozen? ⟨bo,9,none⟩=false:=by rw[Zj (w:=(wr.alloc (.cells #[.int .u64 y1,.int .i64 y2] 138)).drew) (a:=⟨bo,9,none⟩) hbk];exact hOW.frozen 9
    have g2:=hx.cell_ HN9.out;have g3:=hx.cell_ HK1.out;have g4:=hx.cell_ HL1.out;have OW:=Hz hown;have HG:=Hz hgrow;have HAT:=Hz hat
    have HX:=Hz hx;have HOW:=Hz hOW;have HRV:=Hz hRv;clear hown hgrow hat hx hOW hE2 hfl hbk hRW hRv;refine hK.out _ _ ?_ (fun hH=>?_)
    ·(try dsimp only);exact⟨g2,g3,g4⟩
    clear hK K
    try simp only[A5]
    refine tJ 24 82 rfl ?_
    try simp only[A5]
    refine tJ 25 83 rfl ?_
    try simp only[A5]
    refine wpAnyH_ready (rs:=[26]) (by kernel_rfl) (by simp) ?_;refine AllReadyH.cons (o:=⟨none,_,_,_,_,_⟩) rfl (fun K hK=>?_) AllReadyH.nil;go_simp;skip;refine hK.out _ _ ?_ (fun hH=>?_)
    ·(try dsimp only);exact⟨by rw[Zi _ _ _ _ (by simp;omega)];exact g2,by rw[Zi _ _ _ _ (by simp;omega)];exact g3,by rw[Zi _ _ _ _ (by simp;omega)];exact g4⟩
    clear hK K
    try simp only[A5]
    refine wpAnyH_done (by kernel_rfl) ?_ _;have hN:OM (v2.setCell ⟨bo,9,none⟩ (.slice a2 (k+1) c2)) w.heap.size bo (L5 M) (A2j 138 M a2 (k+1) c2):=by
     have h:=OM.push (L1:=[]) (L2:=[]) (f:=⟨9,138,2,a,k,c,G0 (M.ids.take k)⟩) HOW.out a2 (k+1) c2 _ HG.out OW.out HAT.out;unfold A2j;rw[HY.out,show G0 (M.ids.take k++[(y1,y2)])=G0 (M.ids.take k)++G0 [(y1,y2)] from by simp[G0]];exact h
    have hsz2:bo≤(wr.alloc (.cells #[.int .u64 y1,.int .i64 y2] 138)).drew.heap.size:=by have:=HOW.out.lt;omega
    clear hH y1c y2c g2 g3 g4 f1 f2 f3 f4;have HNN:=Hz hN;have HS2:=Hz hsz2;clear hN hsz2;go_wp2;refine⟨⟨k+1,a2,c2,by omega,by go_num,HNN.out,HRV.out.set9 _,A0.set_ HX.out (by simp;omega) _,fun g hg=>?_⟩,by simp[intOf];omega⟩;rcases HAT.out with e|e
    ·exact hB.out g (e ▸ hg)
    ·rw[e] at hg;injection hg with hg;rw[←hg];exact HS2.out
  ·have hge:(M.ids.length:Int)≤(k:Int):=by omega
   obtain rfl:k=M.ids.length:=by omega
   have HRM:=Hz (F0s HM.out hE.out hO.out hR.out)
   go_wp2_with (go_at_call 82;refine (E9m _ _ M _ _ HRM.out HF.out).mono ?_;rintro e w2 ⟨b2,S2,rfl,hom,hq⟩;have HOM:=Hz hom;have HQ:=Hz hq;clear hom hq)
   go_ret;exact⟨_,b2,S2,rfl,HOM.out,hE.out.size,A0.trans_ hE.out HQ.out⟩
end Go.Proofs.YtelhoppfidibiaaGreatDoor
