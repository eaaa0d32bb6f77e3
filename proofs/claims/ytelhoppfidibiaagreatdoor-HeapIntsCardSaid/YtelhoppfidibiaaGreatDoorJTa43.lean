/- The document's model of a heap whose roots are all none: NewModel, Reach, Show. -/
import Derived.Test.YtelhoppfidibiaaGreatDoorJTa34
import Derived.Test.YtelhoppfidibiaaGreatDoorJTa38
import Derived.Deep.LoopGhost
import Derived.Laws.OwnMore
import Derived.Deep.Cut
import Derived.Deep.CutRange
import Derived.Test.YtelhoppfidibiaaGreatDoorJTa42
import Derived.Deep.CutBlock
import Derived.Test.YtelhoppfidibiaaGreatDoorCards
import Derived.Test.YtelhoppfidibiaaGreatDoorTie
import Derived.Test.YtelhoppfidibiaaGreatDoorJTa01
import Derived.ProofKit
import Derived.OpenShut
import Derived.LaidLaws
import Derived.LaidSub
import Derived.LaidMore
import Derived.Deep.DeepHandedRow
import Derived.Deep.DeepWitnessRowRef
set_option linter.unusedSimpArgs false
set_option linter.unusedVariables false
set_option maxHeartbeats 16000000
set_option maxRecDepth 100000
namespace Go.Proofs.YtelhoppfidibiaaGreatDoor
open Go.RowKit
structure NilM (w:World) (mb n G:Nat):Prop where
 rt:w.cell? ⟨mb,0,none⟩=some (.slice (some ⟨G,0,none⟩) n n)
 c0:∀ i,i<n→w.cell? ⟨G,i*3,none⟩=some (.int .i64 0)
 c1:∀ i,i<n→w.cell? ⟨G,i*3+1,none⟩=some (.int .i64 0)
 c2:∀ i,i<n→w.cell? ⟨G,i*3+2,none⟩=some (.pointer none)
def validH (half old card ten roots:Int):Bool:=newOK half old card&&decide (0≤ten)&&decide (ten≤15)&&decide (0≤roots)&&decide (roots≤5000)
theorem hnew_no (half old card ten roots:Int) (h:validH half old card ten roots=false) (w:World) (E:Nat→Addr) (hE:G4 E w) :
  Calls Tryz.prog 10 #[.agg #[.int .i64 half,.int .i64 old,.int .i64 card,.int .i64 ten],.int .i64 roots] w fun e w'=>e=.returned (.tuple #[.pointer none,errV (E 1)])∧Ext w w':=by
 have HE:=Lib.hid hE
 have h5:newOK half old card=false∨(newOK half old card=true∧(ten<0∨(¬ten<0∧15<ten)∨(¬ten<0∧¬15<ten∧roots<0)∨(¬ten<0∧¬15<ten∧¬roots<0∧5000<roots))):=by
  cases hn:newOK half old card with
  | false=>exact Or.inl rfl
  | true =>
   right
   refine⟨rfl,?_⟩
   unfold validH at h
   rw[hn] at h
   simp only[Bool.true_and,Bool.and_eq_false_iff,decide_eq_false_iff_not] at h
   omega
 clear h
 rcases h5 with hn|⟨hn,hr⟩
 ·have hG:=Lib.hid (new_no half old card hn (w.alloc (.cells #[.int .i64 half,.int .i64 old,.int .i64 card,.int .i64 ten] 30)) (E 1) (HE.out.ext ((Ext.refl _).alloc_ _)).bound)
  clear hE
  go_enter Tryz.func10,Tryz.ntmps10
  go_upto_region 3 with (go_at_call 37;refine hG.out.mono ?_;rintro e w1 ⟨rfl,hq⟩;have HX1:Hid (Ext w w1):=((Ext.refl w).alloc_ _).trans_ hq;clear hq;have k1:=(HE.out.ext HX1.out).bound)
  go_region
  go_wp2
  go_ret2
  exact⟨rfl,HX1.out.drew_⟩
 ·have hG:=Lib.hid (new_yes half old card hn (w.alloc (.cells #[.int .i64 half,.int .i64 old,.int .i64 card,.int .i64 ten] 30)))
  clear hE
  rcases hr with b1|⟨b1,b2⟩|⟨b1,b2,b3⟩|⟨b1,b2,b3,b4⟩
  all_goals
   go_enter Tryz.func10,Tryz.ntmps10
   go_upto_region 3 with (go_at_call 37;refine hG.out.mono ?_;rintro e w1 ⟨bb,SS,rfl,hom,hq⟩;have c3:w1.cell? ⟨w.heap.size,3,none⟩=some (.int .i64 ten):=hq.cell_ (by rw[World.cell?,heap_alloc_new];rfl);have HX1:Hid (Ext w w1):=((Ext.refl w).alloc_ _).trans_ hq;clear hq hom;have k1:=(HE.out.ext HX1.out).bound)
   go_region
   go_wp2
   go_ret2
   exact⟨rfl,HX1.out.drew_⟩
theorem hnew5_yes (half old card ten:Int) (h:newOK half old card=true) (ht:0≤ten∧ten≤15) (w:World) :
  Calls Tryz.prog 10 #[.agg #[.int .i64 half,.int .i64 old,.int .i64 card,.int .i64 ten],.int .i64 5] w (HNewPost w ten (newHM half old card 5)):=hnew_yes half old card ten 5 h ht (by omega) w
theorem newHM_aj (half old card:Int) (n:Nat) (h:newOK half old card=true) (hn:n≤5000):AI (newHM half old card n) 1 old n 0:=by
 refine⟨newHM_inv half old card n h hn,rfl,?_,?_,?_,by omega⟩<;>simp[newHM,newM]
theorem sm_fresh (n:Nat):SmI (Ideal.fresh n):=by simp[SmI,Ideal.fresh]
theorem AtAct.ext {w w':World} {g o:Nat} {x:ActP} (h:AtAct w g o x) (hx:Ext w w'):AtAct w' g o x:=by
 obtain⟨h0,h1,h2,h3,h4,h5⟩:=h
 exact⟨hx.cell_ h0,hx.cell_ h1,hx.cell_ h2,hx.cell_ h3,hx.cell_ h4,hx.cell_ h5⟩
theorem codedG {E:Nat→Addr} {w:World} (h:ErrEnv E w) (c d:Int) (h1:0≤c) (h2:c≤7) (hd:1≤d):Calls Tryz.prog 28 #[errC E c,.int .i64 d] w fun e w'=>e=.returned (.bool (decide (c=d)))∧Ext w w':=by
 by_cases hc:c=0
 ·subst hc
  refine (coded_nil d w).mono ?_
  rintro e w' ⟨he,rfl⟩
  refine⟨?_,Ext.refl _⟩
  rw[he,decide_eq_false (by omega)]
  congr 2
  simp;omega
 ·have e1:errC E c=errV (E (c-1).toNat):=by unfold errC;rw[if_neg hc]
  rw[e1]
  refine (coded_env h (c-1).toNat (by omega) d).mono ?_
  rintro e w' ⟨he,hq⟩
  refine⟨?_,hq⟩
  rw[he,show ((((c-1).toNat:Nat):Int)+1)=c by omega]
  congr 2
theorem errI_le (I:Ideal) (ak:AK) (x:ActP):0≤errI I ak x∧errI I ak x≤5:=by
 have hf:∀ r f:Int,0≤fieldI I r f∧fieldI I r f≤5:=fun r f=>by
  unfold fieldI
  split
  ·split
   ·omega
   ·split<;>omega
  ·omega
 have hp:∀ r:Int,0≤ptrI I r∧ptrI I r≤5:=fun r=>by unfold ptrI;split<;>omega
 have h1:=hf x.a x.b
 have h2:=hp x.a
 cases ak<;>simp only[errI]<;>(repeat (first|omega|split))
theorem AOut.le {I:Ideal} {nx old:Int} {M:Mem} {ak:AK} {x:ActP} {c n:Int} {is:Bool} {I':Ideal} {nx':Int} {M':Mem} (h:AOut I nx old M ak x c n is I' nx' M'):0≤c∧c≤6:=by
 have:=errI_le I ak x
 rcases h.res with⟨q,-⟩|⟨-,-,-,-,-,⟨q,-⟩|⟨-,q⟩⟩<;>omega
theorem akOf_look {nm:ByteArray} (h:¬nm=⟨#[108,111,111,107]⟩):akOf nm≠.look:=by
 intro hk
 unfold akOf at hk
 by_cases a_int:nm=⟨#[105,110,116]⟩
 ·rw[if_pos a_int] at hk;cases hk
 rw[if_neg a_int] at hk
 by_cases a_const:nm=⟨#[99,111,110,115,116]⟩
 ·rw[if_pos a_const] at hk;cases hk
 rw[if_neg a_const] at hk
 by_cases a_text:nm=⟨#[116,101,120,116]⟩
 ·rw[if_pos a_text] at hk;cases hk
 rw[if_neg a_text] at hk
 by_cases a_make:nm=⟨#[109,97,107,101]⟩
 ·rw[if_pos a_make] at hk;cases hk
 rw[if_neg a_make] at hk
 by_cases a_copy:nm=⟨#[99,111,112,121]⟩
 ·rw[if_pos a_copy] at hk;cases hk
 rw[if_neg a_copy] at hk
 by_cases a_get:nm=⟨#[103,101,116]⟩
 ·rw[if_pos a_get] at hk;cases hk
 rw[if_neg a_get] at hk
 by_cases a_put:nm=⟨#[112,117,116]⟩
 ·rw[if_pos a_put] at hk;cases hk
 rw[if_neg a_put] at hk
 by_cases a_minor:nm=⟨#[109,105,110,111,114]⟩
 ·rw[if_pos a_minor] at hk;cases hk
 rw[if_neg a_minor] at hk
 by_cases a_major:nm=⟨#[109,97,106,111,114]⟩
 ·rw[if_pos a_major] at hk;cases hk
 rw[if_neg a_major] at hk
 by_cases a_serial:nm=⟨#[115,101,114,105,97,108]⟩
 ·rw[if_pos a_serial] at hk;cases hk
 rw[if_neg a_serial] at hk
 by_cases a_weak:nm=⟨#[119,101,97,107]⟩
 ·rw[if_pos a_weak] at hk;cases hk
 rw[if_neg a_weak] at hk
 rw[if_neg h] at hk
 cases hk
theorem errC_nn {E:Nat→Addr} {c:Int} (h:c≠0):∃ ea,errC E c=errV ea:=⟨_,by unfold errC;rw[if_neg h]⟩
def farA (l:List ActP) (half old:Int):Bool:=!briefB l||decide (2000<half)||decide (2000<old)
theorem heapAlike_any (half old card ten:Int) (A:Option Addr) (C:Nat) (l:List ActP) (force:Int) (w:World) (E:Nat→Addr) (hE:ErrEnv E w) (hT:Tabs w) (hR:RActs w A l) :
  Calls Tryz.prog 7 #[.int .i64 half,.int .i64 old,.int .i64 card,.int .i64 ten,.slice A l.length C,.int .i64 force] w fun e w'=>e=.returned (.bool true)∧Ext w w':=by
 have HE:=Lib.hid hE
 have HG:=Lib.hid hE.g4
 have HTB:=Lib.hid hT
 have HR:=Lib.hid hR
 clear hE hT hR
 go_enter Tryz.func7,Tryz.ntmps7
 go_upto_region 2 with (go_at_call 9;refine (hold_walk E _ HG.out HTB.out).mono ?_;rintro e w1 ⟨rfl,hq⟩;have HX1:=Lib.hid hq;clear hq)
 go_cut [40] from 26 to 40 (fun c wx=>c=.bool (farA l half old)∧Hid (Ext w wx))
 case first =>
  have hbe:∃ br,briefB l=br:=⟨_,rfl⟩
  obtain⟨br,hbr⟩:=hbe
  cases br<;>by_cases a1:2000<half<;>by_cases a3:2000<old
  all_goals
   have hfb:farA l half old=(!briefB l||decide (2000<half)||decide (2000<old)):=rfl
   simp only[hbr,a1,a3,decide_true,decide_false,Bool.true_and,Bool.and_true,Bool.and_false,Bool.false_and,Bool.or_false,Bool.false_or,Bool.true_or,Bool.or_true,Bool.not_true,Bool.not_false] at hfb
   have HFB:=Lib.hid hfb
   have HBR:=Lib.hid hbr
   clear hfb hbr
   go_wp2_with (go_at_call 26;refine (brief_walk l A C _ (HR.out.ext HX1.out)).mono ?_;rintro e w2 ⟨he,hq⟩;rw[HBR.out] at he;subst he;have HX2:Hid (Ext w w2):=HX1.out.trans_ hq;clear hq)
   go_meet
   case rel=>exact⟨(by first|(rw[HFB.out];done)|(rw[HFB.out,decide_eq_false (show ¬2000<half by omega),decide_eq_false (show ¬2000<old by omega)];rfl)),HX2.out⟩
 case rest =>
  obtain⟨rfl,HX2⟩:=hcut
  cases hfar:farA l half old with
  | true =>
   go_wp2
   go_ret
   exact⟨rfl,HX2.out⟩
  | false =>
   have hfz:(l.length≤120∧∀ x∈l,¬(x.nm=makeNm∧300<x.c∧x.c≤4096))∧half≤2000∧old≤2000:=by
    unfold farA at hfar
    simp only[Bool.or_eq_false_iff,Bool.not_eq_false',decide_eq_false_iff_not] at hfar
    obtain⟨⟨g1,g2⟩,g3⟩:=hfar
    exact⟨⟨briefB_len g1,briefB_all g1⟩,by omega,by omega⟩
   obtain⟨⟨z1,z4⟩,z2,z3⟩:=hfz
   have HBA:=Lib.hid z4
   clear hfar z4
   cases hval:validH half old card ten 5 with
   | false =>
    have HVAL:=Lib.hid hval
    clear hval
    go_upto_region 5 with (go_at_call 10;refine (hnew_no half old card ten 5 HVAL.out _ E (HG.out.ext HX2.out)).mono ?_;rintro e w3 ⟨rfl,hq⟩;have HX3:Hid (Ext w w3):=HX2.out.trans_ hq;clear hq)
    go_wp2_with (go_at_call 10;refine (hnew5_yes 4000 60000 16 2 (by decide) (by omega) _).mono ?_;rintro e w4 ⟨hb,b,S0,rfl,h1,hq⟩;have HX4:Hid (Ext w w4):=HX3.out.trans_ hq;clear h1 hq)
    go_ret
    exact⟨rfl,HX4.out⟩
   | true =>
    unfold validH at hval
    simp only[Bool.and_eq_true,decide_eq_true_eq] at hval
    obtain⟨⟨⟨⟨hok,t0⟩,t1⟩,r0⟩,r1⟩:=hval
    have HOK:=Lib.hid hok
    have ht:0≤ten∧ten≤15:=⟨t0,t1⟩
    have HLN:=Lib.hid z1
    have HRL:=Lib.hid HR.out.len
    clear hok t0 t1 r0 r1 z1 z2 z3
    go_upto_region 5 with (go_at_call 10;refine (hnew5_yes half old card ten HOK.out ht _).mono ?_;rintro e w3 ⟨ha,a,Sa,rfl,h1,hq⟩;have HH3:=Lib.hid h1;have HX3:Hid (Ext w w3):=HX2.out.trans_ hq;clear h1 hq)
    go_upto_region 9 with (go_at_call 10;refine (hnew5_yes 4000 60000 16 2 (by decide) (by omega) _).mono ?_;rintro e w4 ⟨hb,b,Sb,rfl,h1,hq⟩;have HH4:=Lib.hid h1;have HQ4:=Lib.hid hq;clear h1 hq)
    have HZ:Hid (w.heap.size≤wc.heap.size):=HX2.out.size
    have HZ2:Hid (w.heap.size≤w3.heap.size):=HX3.out.size
    have HGB:=Lib.hid ((HG.out.ext HX2.out).gb)
    have HGB2:=Lib.hid ((HG.out.ext HX3.out).gb)
    have hT0:Twin w w4 wc.heap.size ha a w3.heap.size hb b ten old 0 0 (newHM half old card 5) Sa (newHM 4000 60000 16 5) Sb (Ideal.fresh 5) 1 :=
     ⟨HH3.out.ext HQ4.out,HH4.out,fun i hi hj=>by have h1:=(HH3.out.own hi).2;have h2:=(HH4.out.own hj).1;omega,newHM_aj _ _ _ 5 HOK.out (by omega),newHM_aj _ _ _ 5 (by decide) (by omega),holds_fresh _ _ _ 5,holds_fresh _ _ _ 5,iwf_fresh 5,sm_fresh 5,by simp[Ideal.fresh],HX3.out.trans_ HQ4.out⟩
    have HT0:=Lib.hid hT0
    obtain⟨B1,hB1⟩:∃ B1,wc.heap.size=B1:=⟨_,rfl⟩
    obtain⟨B2,hB2⟩:∃ B2,w3.heap.size=B2:=⟨_,rfl⟩
    rw[hB1] at HT0 HZ HGB
    rw[hB2] at HT0 HZ2 HGB2
    clear hT0 HH3 HH4 HQ4 hB1 hB2
    go_loopg [18] (l.length) (fun r i wr=>∃ (k:Nat) (Ma:Mem) (Sa:Sls) (Mb:Mem) (Sb:Sls) (I:Ideal) (nx:Int),k+r=l.length∧i=.int .i64 (k:Int)∧Hid (Twin w wr B1 ha a B2 hb b ten old k (3*k) Ma Sa Mb Sb I nx))
    case atStart=>exact⟨0,_,Sa,_,Sb,_,1,by omega,rfl,HT0.out.at (by repeat (first|exact Ext.refl _|(refine Ext.drew_ ?_)|(refine Ext.drewN_ ?_ _)|(refine Ext.alloc_ ?_ _)))⟩
    case round =>
     clear HT0
     obtain⟨k,Ma,Sa,Mb,Sb,I,nx,hk,rfl,hT⟩:=hrel
     have hln:=HLN.out
     cases gk with
     | succ r =>
      have hlt:k<l.length:=by omega
      have hltz:(k:Int)<(l.length:Int):=by omega
      obtain⟨g,o,hfe,hat0⟩:=HR.out.at_ k hlt
      have HAT:=Lib.hid hat0
      obtain⟨c0,c1,c2,c3,c4,c5⟩:=hat0.ext hT.out.ext
      have hnum:=HR.out.nums l[k] (List.getElem_mem hlt)
      have hba:=HBA.out l[k] (List.getElem_mem hlt)
      subst hfe
      generalize l[k]=x at *
      have HNUM:=Lib.hid hnum
      have HBX:=Lib.hid hba
      have HK:=Lib.hid hk
      have hk1:3*k≤1000:=by omega
      have hk2:k≤120:=by omega
      have hl9:I.V.length≤1000000000:=by have:=hT.out.len;omega
      have f1:IntKind.i64.wrap ((k:Int)+1)=((k+1:Nat):Int):=by rw[IntWalk.i64_in _ (by omega)];omega
      clear hnum hba hat0 hk
      by_cases lk:x.nm=⟨#[108,111,111,107]⟩
      ·rw[lk] at c0
       clear HAT
       go_wp2
       go_roundg r
       case measure=>omega
       case rel=>exact⟨k+1,Ma,Sa,Mb,Sb,I,nx,by have:=HK.out;omega,by go_num,(hT.out.at (by repeat (first|exact Ext.refl _|(refine Ext.drew_ ?_)|(refine Ext.drewN_ ?_ _)|(refine Ext.alloc_ ?_ _)))).up (by omega) (by omega)⟩
      by_cases wk:x.nm=⟨#[119,101,97,107]⟩
      ·rw[wk] at c0
       clear HAT
       go_wp2
       go_roundg r
       case measure=>omega
       case rel=>exact⟨k+1,Ma,Sa,Mb,Sb,I,nx,by have:=HK.out;omega,by go_num,(hT.out.at (by repeat (first|exact Ext.refl _|(refine Ext.drew_ ?_)|(refine Ext.drewN_ ?_ _)|(refine Ext.alloc_ ?_ _)))).up (by omega) (by omega)⟩
      have n1:(x.nm.toList==[108,111,111,107])=false:=not_lit lk
      have n2:(x.nm.toList==[119,101,97,107])=false:=not_lit wk
      have HAK:=Lib.hid (akOf_look lk)
      clear lk wk
      go_upto_region 13 with (go_at_call 27;refine (acti_walk hT.out.oa hT.out.aa (HG.out.ext hT.out.ext) ht HGB.out hT.out.hA hl9 (hT.out.wf.wk hl9) x ⟨HNUM.out.1,HNUM.out.2.1,HNUM.out.2.2.1⟩ hk1).mono ?_;rintro e w4 ⟨c,n,is,M2,S2,I2,nx2,he,h1,h2,h3,h4⟩;change e=.returned (.tuple #[.int .i64 n,.bool is,errC E c]) at he;have HHF:=Lib.hid (hT.out.half HZ.out h1 h2 h3);have HQ1:=Lib.hid h4;have HLE:=Lib.hid h4.le;clear h1 h2 h3 h4;rcases (show c=0∨c=6∨(c≠0∧c≠6) by omega) with hc|hc|hc;all_goals (first|(have HC:Hid (c=0):=hc;rw[hc,show errC E 0=.nilIface from rfl] at he;subst he;clear hc)|(have HC6:Hid (c=6):=hc;rw[hc] at he;obtain⟨ea,hv⟩:=errC_nn (E:=E) (c:=6) (by decide);have HV:=Lib.hid hv;rw[hv] at he;subst he;clear hc hv)|(have HC:Hid (c≠0∧c≠6):=hc;obtain⟨ea,hv⟩:=errC_nn (E:=E) hc.1;have HV:=Lib.hid hv;rw[hv] at he;subst he;clear hc hv)))
      ·
       go_upto_region 15 with (go_at_call 28;refine (coded_nil 6 _).mono ?_;rintro e w5 ⟨rfl,hw5⟩;have HHG:Hid (Half w w5 B1 ha a B2 hb b ten old (3*k) M2 S2 nx2 Mb Sb nx):=(by rw[hw5];exact HHF.out);clear hw5)
       obtain⟨d0,d1,d2,d3,d4,d5⟩:=HAT.out.ext HHG.out.ext
       go_upto_region 16 with (go_at_call 27;refine (acti_walk HHG.out.ob hT.out.ab (HG.out.ext HHG.out.ext) (by omega) HGB2.out hT.out.hB hl9 (hT.out.wf.wk hl9) x ⟨HNUM.out.1,HNUM.out.2.1,HNUM.out.2.2.1⟩ hk1).mono ?_;rintro e w6 ⟨c2,n2,is2,M3,S3,I3,nx3,he,h1,h2,h3,h4⟩;change e=.returned (.tuple #[.int .i64 n2,.bool is2,errC E c2]) at he;obtain⟨e1,e2,-,-,I4,nx4,ht4⟩:=HHG.out.both hT.out HZ.out hk2 HQ1.out (by rw[HC.out];omega) HAK.out HBX.out HNUM.out.2.2.2 HZ2.out h1 h2 h3 h4;rw[e2.1 HC.out,show errC E 0=.nilIface from rfl,e1] at he;subst he;have HT4:=Lib.hid ht4;clear h1 h2 h3 h4 e1 e2 ht4)
       go_cut [115] from 106 to 115 (fun v wx=>v=.bool false∧Hid (Twin w wx B1 ha a B2 hb b ten old (k+1) (3*k+1) M2 S2 M3 S3 I4 nx4))
       case first =>
        clear HAT
        go_region
        go_wp2_with fail
        go_meet
        case rel=>exact⟨by simp,HT4.out.at (by repeat (first|exact Ext.refl _|(refine Ext.drew_ ?_)|(refine Ext.drewN_ ?_ _)|(refine Ext.alloc_ ?_ _)))⟩
       case rest =>
        obtain⟨rfl,HT5⟩:=hcut
        clear HT4 HAT d0 d1 d2 d3 d4 d5
        go_upto_region 18 with fail
        go_cut [123] from 116 to 123 (fun v wx=>∃ rb,v=.bool rb∧Hid (Ext w wx)∧(rb=false→Hid (∃ M6 S6,Twin w wx B1 ha a B2 hb b ten old (k+1) (3*k+2) M6 S6 M3 S3 I4 nx4)))
        case first =>
         by_cases f2:force.tmod 2=1
         ·by_cases mc:minorC M2=0
          ·have MC:=Lib.hid mc
           clear mc
           go_wp2_with (go_at_call 12;refine (hMinor_walk _ (HT5.out.oa.ext (by repeat (first|exact Ext.refl _|(refine Ext.drew_ ?_)|(refine Ext.drewN_ ?_ _)|(refine Ext.alloc_ ?_ _)))) HT5.out.aa.inv.ok (HG.out.ext (HT5.out.ext.trans_ (by repeat (first|exact Ext.refl _|(refine Ext.drew_ ?_)|(refine Ext.drewN_ ?_ _)|(refine Ext.alloc_ ?_ _))))) HT5.out.aa.inv.chk ht ⟨HGB.out.bound,HGB.out.shape,HGB.out.full⟩).mono ?_;rintro e w7 ⟨he,S6,h1,h2⟩;rw[MC.out,show errC E 0=.nilIface from rfl] at he;subst he;have HT6:=Lib.hid ((HT5.out.at (by repeat (first|exact Ext.refl _|(refine Ext.drew_ ?_)|(refine Ext.drewN_ ?_ _)|(refine Ext.alloc_ ?_ _)))).coll HZ.out h1 h2 (HT5.out.aa.same (minorH_inv ht HT5.out.aa.inv).1 (minorH_inv ht HT5.out.aa.inv).2) (HT5.out.hA.minor ht HT5.out.aa.inv));clear h1 h2)
           go_meet
           case rel=>exact⟨false,by simp,(HT6.out.at (by repeat (first|exact Ext.refl _|(refine Ext.drew_ ?_)|(refine Ext.drewN_ ?_ _)|(refine Ext.alloc_ ?_ _)))).ext,fun _=>⟨_,_,HT6.out.at (by repeat (first|exact Ext.refl _|(refine Ext.drew_ ?_)|(refine Ext.drewN_ ?_ _)|(refine Ext.alloc_ ?_ _)))⟩⟩
          ·obtain⟨em,hv⟩:=errC_nn (E:=E) mc
           have HVM:=Lib.hid hv
           clear mc hv
           go_wp2_with (go_at_call 12;refine (hMinor_walk _ (HT5.out.oa.ext (by repeat (first|exact Ext.refl _|(refine Ext.drew_ ?_)|(refine Ext.drewN_ ?_ _)|(refine Ext.alloc_ ?_ _)))) HT5.out.aa.inv.ok (HG.out.ext (HT5.out.ext.trans_ (by repeat (first|exact Ext.refl _|(refine Ext.drew_ ?_)|(refine Ext.drewN_ ?_ _)|(refine Ext.alloc_ ?_ _))))) HT5.out.aa.inv.chk ht ⟨HGB.out.bound,HGB.out.shape,HGB.out.full⟩).mono ?_;rintro e w7 ⟨he,S6,h1,h2⟩;rw[HVM.out] at he;subst he;have HX7:=Lib.hid ((HT5.out.at (by repeat (first|exact Ext.refl _|(refine Ext.drew_ ?_)|(refine Ext.drewN_ ?_ _)|(refine Ext.alloc_ ?_ _)))).coll HZ.out h1 h2 (HT5.out.aa.same (minorH_inv ht HT5.out.aa.inv).1 (minorH_inv ht HT5.out.aa.inv).2) (HT5.out.hA.minor ht HT5.out.aa.inv)).ext;clear h1 h2)
           go_meet
           case rel=>exact⟨true,by simp,HX7.out.trans_ (by repeat (first|exact Ext.refl _|(refine Ext.drew_ ?_)|(refine Ext.drewN_ ?_ _)|(refine Ext.alloc_ ?_ _))),fun q=>by cases q⟩
         ·have f2b:(force.tmod 2==1)=false:=by simpa using f2
          go_wp2_with fail
          go_meet
          case rel=>exact⟨false,by simp,(HT5.out.at (by repeat (first|exact Ext.refl _|(refine Ext.drew_ ?_)|(refine Ext.drewN_ ?_ _)|(refine Ext.alloc_ ?_ _)))).ext,fun _=>⟨_,_,(HT5.out.up (Nat.le_refl _) (by omega)).at (by repeat (first|exact Ext.refl _|(refine Ext.drew_ ?_)|(refine Ext.drewN_ ?_ _)|(refine Ext.alloc_ ?_ _)))⟩⟩
        case rest =>
         obtain⟨rb,rfl,HX6,HT6⟩:=hcut
         cases rb with
         | true =>
          go_wp2
          go_ret
          exact⟨rfl,HX6.out⟩
         | false =>
          obtain⟨M6,S6,ht6⟩:=(HT6 rfl).out
          have HT7:=Lib.hid ht6
          clear HT5 HT6 ht6
          go_upto_region 20 with fail
          go_cut [131] from 124 to 131 (fun v wx=>∃ rb,v=.bool rb∧Hid (Ext w wx)∧(rb=false→Hid (∃ M6 S6,Twin w wx B1 ha a B2 hb b ten old (k+1) (3*k+3) M6 S6 M3 S3 I4 nx4)))
          case first =>
           by_cases f2:force.tmod 3=1
           ·by_cases mc:majorC M6=0
            ·have MC:=Lib.hid mc
             clear mc
             go_wp2_with (go_at_call 13;refine (hMajor_walk _ (HT7.out.oa.ext (by repeat (first|exact Ext.refl _|(refine Ext.drew_ ?_)|(refine Ext.drewN_ ?_ _)|(refine Ext.alloc_ ?_ _)))) HT7.out.aa.inv.ok (HG.out.ext (HT7.out.ext.trans_ (by repeat (first|exact Ext.refl _|(refine Ext.drew_ ?_)|(refine Ext.drewN_ ?_ _)|(refine Ext.alloc_ ?_ _))))) HT7.out.aa.inv.chk).mono ?_;rintro e w8 ⟨he,S8,h1,h2⟩;rw[MC.out,show errC E 0=.nilIface from rfl] at he;subst he;have HT8:=Lib.hid ((HT7.out.at (by repeat (first|exact Ext.refl _|(refine Ext.drew_ ?_)|(refine Ext.drewN_ ?_ _)|(refine Ext.alloc_ ?_ _)))).coll HZ.out h1 h2 (HT7.out.aa.same (majorH_inv HT7.out.aa.inv).1 (majorH_inv HT7.out.aa.inv).2) (HT7.out.hA.major HT7.out.aa.inv));clear h1 h2)
             go_meet
             case rel=>exact⟨false,by simp,(HT8.out.at (by repeat (first|exact Ext.refl _|(refine Ext.drew_ ?_)|(refine Ext.drewN_ ?_ _)|(refine Ext.alloc_ ?_ _)))).ext,fun _=>⟨_,_,HT8.out.at (by repeat (first|exact Ext.refl _|(refine Ext.drew_ ?_)|(refine Ext.drewN_ ?_ _)|(refine Ext.alloc_ ?_ _)))⟩⟩
            ·obtain⟨em,hv⟩:=errC_nn (E:=E) mc
             have HVM:=Lib.hid hv
             clear mc hv
             go_wp2_with (go_at_call 13;refine (hMajor_walk _ (HT7.out.oa.ext (by repeat (first|exact Ext.refl _|(refine Ext.drew_ ?_)|(refine Ext.drewN_ ?_ _)|(refine Ext.alloc_ ?_ _)))) HT7.out.aa.inv.ok (HG.out.ext (HT7.out.ext.trans_ (by repeat (first|exact Ext.refl _|(refine Ext.drew_ ?_)|(refine Ext.drewN_ ?_ _)|(refine Ext.alloc_ ?_ _))))) HT7.out.aa.inv.chk).mono ?_;rintro e w8 ⟨he,S8,h1,h2⟩;rw[HVM.out] at he;subst he;have HX8:=Lib.hid ((HT7.out.at (by repeat (first|exact Ext.refl _|(refine Ext.drew_ ?_)|(refine Ext.drewN_ ?_ _)|(refine Ext.alloc_ ?_ _)))).coll HZ.out h1 h2 (HT7.out.aa.same (majorH_inv HT7.out.aa.inv).1 (majorH_inv HT7.out.aa.inv).2) (HT7.out.hA.major HT7.out.aa.inv)).ext;clear h1 h2)
             go_meet
             case rel=>exact⟨true,by simp,HX8.out.trans_ (by repeat (first|exact Ext.refl _|(refine Ext.drew_ ?_)|(refine Ext.drewN_ ?_ _)|(refine Ext.alloc_ ?_ _))),fun q=>by cases q⟩
           ·have f2b:(force.tmod 3==1)=false:=by simpa using f2
            go_wp2_with fail
            go_meet
            case rel=>exact⟨false,by simp,(HT7.out.at (by repeat (first|exact Ext.refl _|(refine Ext.drew_ ?_)|(refine Ext.drewN_ ?_ _)|(refine Ext.alloc_ ?_ _)))).ext,fun _=>⟨_,_,(HT7.out.up (Nat.le_refl _) (by omega)).at (by repeat (first|exact Ext.refl _|(refine Ext.drew_ ?_)|(refine Ext.drewN_ ?_ _)|(refine Ext.alloc_ ?_ _)))⟩⟩
          case rest =>
           obtain⟨rb,rfl,HX8,HT8⟩:=hcut
           cases rb with
           | true =>
            go_wp2
            go_ret
            exact⟨rfl,HX8.out⟩
           | false =>
            obtain⟨M8,S8,ht8⟩:=(HT8 rfl).out
            have HT9:=Lib.hid ht8
            clear HT8 HT7 ht8
            go_wp2
            go_roundg r
            case measure=>omega
            case rel=>exact⟨k+1,M8,S8,M3,S3,I4,nx4,by have:=HK.out;omega,by go_num,(HT9.out.at (by repeat (first|exact Ext.refl _|(refine Ext.drew_ ?_)|(refine Ext.drewN_ ?_ _)|(refine Ext.alloc_ ?_ _)))).up (by omega) (by omega)⟩
      ·
       go_wp2_with (go_at_call 28;have h66:=codedG (HE.out.ext HHF.out.ext) 6 6 (by omega) (by omega) (by omega);rw[HV.out,decide_eq_true (show (6:Int)=6 from rfl)] at h66;refine h66.mono ?_;clear h66;rintro e w5 ⟨rfl,hq⟩;have HX5:Hid (Ext w w5):=HHF.out.ext.trans_ hq;clear hq)
       go_ret
       exact⟨rfl,HX5.out⟩
      ·
       have HCD:Hid (∀ w',Ext w w'→Calls Tryz.prog 28 #[errV ea,.int .i64 6] w' fun e w''=>e=.returned (.bool false)∧Ext w' w''):=fun w' hx=>by
        have h:=codedG (HE.out.ext hx) c 6 HLE.out.1 (by have:=HLE.out.2;omega) (by omega)
        rw[HV.out,decide_eq_false HC.out.2] at h
        exact h
       go_upto_region 15 with (go_at_call 28;refine (HCD.out _ HHF.out.ext).mono ?_;rintro e w5 ⟨rfl,hq⟩;have HHG:Hid (Half w w5 B1 ha a B2 hb b ten old (3*k) M2 S2 nx2 Mb Sb nx):=HHF.out.at hq;clear hq)
       obtain⟨d0,d1,d2,d3,d4,d5⟩:=HAT.out.ext HHG.out.ext
       go_upto_region 16 with (go_at_call 27;refine (acti_walk HHG.out.ob hT.out.ab (HG.out.ext HHG.out.ext) (by omega) HGB2.out hT.out.hB hl9 (hT.out.wf.wk hl9) x ⟨HNUM.out.1,HNUM.out.2.1,HNUM.out.2.2.1⟩ hk1).mono ?_;rintro e w6 ⟨c2,n2,is2,M3,S3,I3,nx3,he,h1,h2,h3,h4⟩;change e=.returned (.tuple #[.int .i64 n2,.bool is2,errC E c2]) at he;obtain⟨e1,e2,-,-,I4,nx4,ht4⟩:=HHG.out.both hT.out HZ.out hk2 HQ1.out HC.out.2 HAK.out HBX.out HNUM.out.2.2.2 HZ2.out h1 h2 h3 h4;obtain⟨eb,hv⟩:=errC_nn (E:=E) (fun q=>HC.out.1 (e2.2 q));rw[hv,e1] at he;subst he;clear hv;have HT4:=Lib.hid ht4;clear h1 h2 h3 h4 e1 e2 ht4)
       go_cut [115] from 106 to 115 (fun v wx=>v=.bool false∧Hid (Twin w wx B1 ha a B2 hb b ten old (k+1) (3*k+1) M2 S2 M3 S3 I4 nx4))
       case first =>
        clear HAT
        go_region
        go_wp2_with fail
        go_meet
        case rel=>exact⟨by simp,HT4.out.at (by repeat (first|exact Ext.refl _|(refine Ext.drew_ ?_)|(refine Ext.drewN_ ?_ _)|(refine Ext.alloc_ ?_ _)))⟩
       case rest =>
        obtain⟨rfl,HT5⟩:=hcut
        clear HT4 HAT d0 d1 d2 d3 d4 d5
        go_upto_region 18 with fail
        go_cut [123] from 116 to 123 (fun v wx=>∃ rb,v=.bool rb∧Hid (Ext w wx)∧(rb=false→Hid (∃ M6 S6,Twin w wx B1 ha a B2 hb b ten old (k+1) (3*k+2) M6 S6 M3 S3 I4 nx4)))
        case first =>
         by_cases f2:force.tmod 2=1
         ·by_cases mc:minorC M2=0
          ·have MC:=Lib.hid mc
           clear mc
           go_wp2_with (go_at_call 12;refine (hMinor_walk _ (HT5.out.oa.ext (by repeat (first|exact Ext.refl _|(refine Ext.drew_ ?_)|(refine Ext.drewN_ ?_ _)|(refine Ext.alloc_ ?_ _)))) HT5.out.aa.inv.ok (HG.out.ext (HT5.out.ext.trans_ (by repeat (first|exact Ext.refl _|(refine Ext.drew_ ?_)|(refine Ext.drewN_ ?_ _)|(refine Ext.alloc_ ?_ _))))) HT5.out.aa.inv.chk ht ⟨HGB.out.bound,HGB.out.shape,HGB.out.full⟩).mono ?_;rintro e w7 ⟨he,S6,h1,h2⟩;rw[MC.out,show errC E 0=.nilIface from rfl] at he;subst he;have HT6:=Lib.hid ((HT5.out.at (by repeat (first|exact Ext.refl _|(refine Ext.drew_ ?_)|(refine Ext.drewN_ ?_ _)|(refine Ext.alloc_ ?_ _)))).coll HZ.out h1 h2 (HT5.out.aa.same (minorH_inv ht HT5.out.aa.inv).1 (minorH_inv ht HT5.out.aa.inv).2) (HT5.out.hA.minor ht HT5.out.aa.inv));clear h1 h2)
           go_meet
           case rel=>exact⟨false,by simp,(HT6.out.at (by repeat (first|exact Ext.refl _|(refine Ext.drew_ ?_)|(refine Ext.drewN_ ?_ _)|(refine Ext.alloc_ ?_ _)))).ext,fun _=>⟨_,_,HT6.out.at (by repeat (first|exact Ext.refl _|(refine Ext.drew_ ?_)|(refine Ext.drewN_ ?_ _)|(refine Ext.alloc_ ?_ _)))⟩⟩
          ·obtain⟨em,hv⟩:=errC_nn (E:=E) mc
           have HVM:=Lib.hid hv
           clear mc hv
           go_wp2_with (go_at_call 12;refine (hMinor_walk _ (HT5.out.oa.ext (by repeat (first|exact Ext.refl _|(refine Ext.drew_ ?_)|(refine Ext.drewN_ ?_ _)|(refine Ext.alloc_ ?_ _)))) HT5.out.aa.inv.ok (HG.out.ext (HT5.out.ext.trans_ (by repeat (first|exact Ext.refl _|(refine Ext.drew_ ?_)|(refine Ext.drewN_ ?_ _)|(refine Ext.alloc_ ?_ _))))) HT5.out.aa.inv.chk ht ⟨HGB.out.bound,HGB.out.shape,HGB.out.full⟩).mono ?_;rintro e w7 ⟨he,S6,h1,h2⟩;rw[HVM.out] at he;subst he;have HX7:=Lib.hid ((HT5.out.at (by repeat (first|exact Ext.refl _|(refine Ext.drew_ ?_)|(refine Ext.drewN_ ?_ _)|(refine Ext.alloc_ ?_ _)))).coll HZ.out h1 h2 (HT5.out.aa.same (minorH_inv ht HT5.out.aa.inv).1 (minorH_inv ht HT5.out.aa.inv).2) (HT5.out.hA.minor ht HT5.out.aa.inv)).ext;clear h1 h2)
           go_meet
           case rel=>exact⟨true,by simp,HX7.out.trans_ (by repeat (first|exact Ext.refl _|(refine Ext.drew_ ?_)|(refine Ext.drewN_ ?_ _)|(refine Ext.alloc_ ?_ _))),fun q=>by cases q⟩
         ·have f2b:(force.tmod 2==1)=false:=by simpa using f2
          go_wp2_with fail
          go_meet
          case rel=>exact⟨false,by simp,(HT5.out.at (by repeat (first|exact Ext.refl _|(refine Ext.drew_ ?_)|(refine Ext.drewN_ ?_ _)|(refine Ext.alloc_ ?_ _)))).ext,fun _=>⟨_,_,(HT5.out.up (Nat.le_refl _) (by omega)).at (by repeat (first|exact Ext.refl _|(refine Ext.drew_ ?_)|(refine Ext.drewN_ ?_ _)|(refine Ext.alloc_ ?_ _)))⟩⟩
        case rest =>
         obtain⟨rb,rfl,HX6,HT6⟩:=hcut
         cases rb with
         | true =>
          go_wp2
          go_ret
          exact⟨rfl,HX6.out⟩
         | false =>
          obtain⟨M6,S6,ht6⟩:=(HT6 rfl).out
          have HT7:=Lib.hid ht6
          clear HT5 HT6 ht6
          go_upto_region 20 with fail
          go_cut [131] from 124 to 131 (fun v wx=>∃ rb,v=.bool rb∧Hid (Ext w wx)∧(rb=false→Hid (∃ M6 S6,Twin w wx B1 ha a B2 hb b ten old (k+1) (3*k+3) M6 S6 M3 S3 I4 nx4)))
          case first =>
           by_cases f2:force.tmod 3=1
           ·by_cases mc:majorC M6=0
            ·have MC:=Lib.hid mc
             clear mc
             go_wp2_with (go_at_call 13;refine (hMajor_walk _ (HT7.out.oa.ext (by repeat (first|exact Ext.refl _|(refine Ext.drew_ ?_)|(refine Ext.drewN_ ?_ _)|(refine Ext.alloc_ ?_ _)))) HT7.out.aa.inv.ok (HG.out.ext (HT7.out.ext.trans_ (by repeat (first|exact Ext.refl _|(refine Ext.drew_ ?_)|(refine Ext.drewN_ ?_ _)|(refine Ext.alloc_ ?_ _))))) HT7.out.aa.inv.chk).mono ?_;rintro e w8 ⟨he,S8,h1,h2⟩;rw[MC.out,show errC E 0=.nilIface from rfl] at he;subst he;have HT8:=Lib.hid ((HT7.out.at (by repeat (first|exact Ext.refl _|(refine Ext.drew_ ?_)|(refine Ext.drewN_ ?_ _)|(refine Ext.alloc_ ?_ _)))).coll HZ.out h1 h2 (HT7.out.aa.same (majorH_inv HT7.out.aa.inv).1 (majorH_inv HT7.out.aa.inv).2) (HT7.out.hA.major HT7.out.aa.inv));clear h1 h2)
             go_meet
             case rel=>exact⟨false,by simp,(HT8.out.at (by repeat (first|exact Ext.refl _|(refine Ext.drew_ ?_)|(refine Ext.drewN_ ?_ _)|(refine Ext.alloc_ ?_ _)))).ext,fun _=>⟨_,_,HT8.out.at (by repeat (first|exact Ext.refl _|(refine Ext.drew_ ?_)|(refine Ext.drewN_ ?_ _)|(refine Ext.alloc_ ?_ _)))⟩⟩
            ·obtain⟨em,hv⟩:=errC_nn (E:=E) mc
             have HVM:=Lib.hid hv
             clear mc hv
             go_wp2_with (go_at_call 13;refine (hMajor_walk _ (HT7.out.oa.ext (by repeat (first|exact Ext.refl _|(refine Ext.drew_ ?_)|(refine Ext.drewN_ ?_ _)|(refine Ext.alloc_ ?_ _)))) HT7.out.aa.inv.ok (HG.out.ext (HT7.out.ext.trans_ (by repeat (first|exact Ext.refl _|(refine Ext.drew_ ?_)|(refine Ext.drewN_ ?_ _)|(refine Ext.alloc_ ?_ _))))) HT7.out.aa.inv.chk).mono ?_;rintro e w8 ⟨he,S8,h1,h2⟩;rw[HVM.out] at he;subst he;have HX8:=Lib.hid ((HT7.out.at (by repeat (first|exact Ext.refl _|(refine Ext.drew_ ?_)|(refine Ext.drewN_ ?_ _)|(refine Ext.alloc_ ?_ _)))).coll HZ.out h1 h2 (HT7.out.aa.same (majorH_inv HT7.out.aa.inv).1 (majorH_inv HT7.out.aa.inv).2) (HT7.out.hA.major HT7.out.aa.inv)).ext;clear h1 h2)
             go_meet
             case rel=>exact⟨true,by simp,HX8.out.trans_ (by repeat (first|exact Ext.refl _|(refine Ext.drew_ ?_)|(refine Ext.drewN_ ?_ _)|(refine Ext.alloc_ ?_ _))),fun q=>by cases q⟩
           ·have f2b:(force.tmod 3==1)=false:=by simpa using f2
            go_wp2_with fail
            go_meet
            case rel=>exact⟨false,by simp,(HT7.out.at (by repeat (first|exact Ext.refl _|(refine Ext.drew_ ?_)|(refine Ext.drewN_ ?_ _)|(refine Ext.alloc_ ?_ _)))).ext,fun _=>⟨_,_,(HT7.out.up (Nat.le_refl _) (by omega)).at (by repeat (first|exact Ext.refl _|(refine Ext.drew_ ?_)|(refine Ext.drewN_ ?_ _)|(refine Ext.alloc_ ?_ _)))⟩⟩
          case rest =>
           obtain⟨rb,rfl,HX8,HT8⟩:=hcut
           cases rb with
           | true =>
            go_wp2
            go_ret
            exact⟨rfl,HX8.out⟩
           | false =>
            obtain⟨M8,S8,ht8⟩:=(HT8 rfl).out
            have HT9:=Lib.hid ht8
            clear HT8 HT7 ht8
            go_wp2
            go_roundg r
            case measure=>omega
            case rel=>exact⟨k+1,M8,S8,M3,S3,I4,nx4,by have:=HK.out;omega,by go_num,(HT9.out.at (by repeat (first|exact Ext.refl _|(refine Ext.drew_ ?_)|(refine Ext.drewN_ ?_ _)|(refine Ext.alloc_ ?_ _)))).up (by omega) (by omega)⟩
     | zero =>
      obtain rfl:k=l.length:=by omega
      have hltz:¬((l.length:Nat):Int)<(l.length:Int):=by omega
      obtain⟨t1,t2,t3,t4⟩:=hT.out.text
      have HTX:=Lib.hid hT.out.ext
      have hfewA:Few Ma:=hT.out.aa.inv.few (by rw[hT.out.aa.roots];omega) (by have:=hT.out.aa.weak;omega) (by have:=hT.out.aa.ids;omega)
      have hfewB:Few Mb:=hT.out.ab.inv.few (by rw[hT.out.ab.roots];omega) (by have:=hT.out.ab.weak;omega) (by have:=hT.out.ab.ids;omega)
      have HSH:Hid (∀ h,(h=ha∨h=hb)→∀ w',Ext wr w'→Calls Tryz.prog 19 #[.pointer (some ⟨h,0,none⟩)] w' fun e w''=>e=.returned (.string (showI I))∧Ext w' w''):=fun h hh w' hx=>by
       rcases hh with rfl|rfl
       ·rw[←t1];exact show2_walk _ a Ma Sa w' ((hT.out.oa.ext hx).mem.mem hT.out.aa.inv.ok) (hT.out.oa.ext hx).ptr (chk_zero hT.out.aa.inv.chk).1 hfewA ((HTB.out.ext hT.out.ext).ext hx) t3
       ·rw[←t2];exact show2_walk _ b Mb Sb w' ((hT.out.ob.ext hx).mem.mem hT.out.ab.inv.ok) (hT.out.ob.ext hx).ptr (chk_zero hT.out.ab.inv.chk).1 hfewB ((HTB.out.ext hT.out.ext).ext hx) t4
      have HXC:Hid (Ext wr wr):=Ext.refl _
      clear t1 t2 t3 t4 hfewA hfewB hk
      generalize showI I=sh at *
      go_wp2_with (go_at_call 19;refine (HSH.out _ (by first|exact Or.inl rfl|exact Or.inr rfl) _ HXC.out).mono ?_;rintro e wN ⟨rfl,hq⟩;have HXN:=Lib.hid (HXC.out.trans_ hq);clear HXC hq;have HXC:=HXN;clear HXN)
      go_ret
      exact⟨by simp,HTX.out.trans_ HXC.out⟩
open Go.ChangeShapes Go.WideShapes Go.ChangeAt Go.RowKit
theorem own:ownKnob Tryz.prog.godebug=none:=by kernel_rfl
theorem esStar : "*" ++ "errors.errorString" = "*errors.errorString":=by decide
theorem esRow (u:TypeId) (h:Tryz.prog.typeName? 3 u=some "*errors.errorString"):u=261 :=
 typeName_ptr_named (nm := "errors.errorString") (by rw[esStar];kernel_rfl) (by kernel_rfl) (by decide) u (by rw[esStar];exact h)
theorem esCells:Tryz.prog.cellsOf 279=1:=by kernel_rfl
theorem strCells:Tryz.prog.cellsOf 9=1:=by kernel_rfl
abbrev errD (text:List UInt8):DataW Unit:=.iface "*errors.errorString" (.ptr (.agg [.lit (.string text)]))
theorem one_of_laid {W:World} {n:String} {text:List UInt8} {g:Nat} (hg:Tryz.prog.globalNamed n=some g) (ht:(Tryz.prog.globals[g]?).map (·.type)=some 26)
  (h:laidMet Tryz.prog [(n,errD text)] W):∃ a s,W.cell? ⟨g,0,none⟩=some (errV a)∧W.cell? a=some (.string s)∧s.data.toList=text:=by
 obtain⟨ps,⟨g0,t0,cs0,f0,p0,q0,hg0,ht0,hv0,hd0,_,e0⟩,hnd,hrows⟩:=h
 obtain rfl:=Option.some.inj (hg.symm.trans hg0)
 obtain rfl:=Option.some.inj (ht.symm.trans ht0)
 subst e0
 obtain⟨l0⟩:=cs0
 have ok0:∀ u v,l0=[.iface u v]→Value.okWide Tryz.prog W .any 0 u v:=fun u v e=>by
  subst e
  exact (hrows g 0 (by simp[MemPlace.row])).2 u v (by simpa using World.var?_cell hg0 hv0 0)
 obtain⟨a0,s0,rfl,hc0,hs0,hz0,rfl⟩:=errorString_of_trod Tryz.underlying26 esRow Tryz.underlying261 Tryz.underlying279 rfl rfl Tryz.underlying9 esCells strCells hd0 ok0
 exact⟨a0,s0,by simpa using World.var?_cell hg0 hv0 0,hc0,hs0⟩
theorem blk_of_laid {W:World} {n:String} {text:List UInt8} {g:Nat} (hg:Tryz.prog.globalNamed n=some g) (ht:(Tryz.prog.globals[g]?).map (·.type)=some 26)
  (h:laidMet Tryz.prog [(n,errD text)] W) {a:Addr} (ha:W.cell? ⟨g,0,none⟩=some (errV a)):∃ c t,W.heap[a.block]?=some (.cells c t (0,0)):=by
 obtain⟨ps,⟨g0,t0,cs0,f0,p0,q0,hg0,ht0,hv0,hd0,_,e0⟩,hnd,hrows⟩:=h
 obtain rfl:=Option.some.inj (hg.symm.trans hg0)
 obtain rfl:=Option.some.inj (ht.symm.trans ht0)
 subst e0
 obtain⟨l0⟩:=cs0
 have ok0:∀ u v,l0=[.iface u v]→Value.okWide Tryz.prog W .any 0 u v:=fun u v e=>by
  subst e
  exact (hrows g 0 (by simp[MemPlace.row])).2 u v (by simpa using World.var?_cell hg0 hv0 0)
 obtain⟨a0,s0,rfl,hc0,hs0,hz0,rfl⟩:=errorString_of_trod Tryz.underlying26 esRow Tryz.underlying261 Tryz.underlying279 rfl rfl Tryz.underlying9 esCells strCells hd0 ok0
 have e0:W.cell? ⟨g,0,none⟩=some (errV a0):=by simpa using World.var?_cell hg0 hv0 0
 rw[e0] at ha
 have ea:a0=a:=by injection ha with ha;injection ha with _ ha;injection ha with ha;injection ha
 subst ea
 exact (hrows a0.block a0.off (by simp[MemPlace.row])).1
theorem two_of_laid {W:World} {n m:String} {tn tm:List UInt8} {g k:Nat} (hg:Tryz.prog.globalNamed n=some g) (ht:(Tryz.prog.globals[g]?).map (·.type)=some 26)
  (hk:Tryz.prog.globalNamed m=some k) (hkt:(Tryz.prog.globals[k]?).map (·.type)=some 26)
  (h:laidMet Tryz.prog [(n,errD tn),(m,errD tm)] W) {a b:Addr} (ha:W.cell? ⟨g,0,none⟩=some (errV a)) (hb:W.cell? ⟨k,0,none⟩=some (errV b)):a≠b:=by
 obtain⟨ps,⟨g0,t0,cs0,f0,p0,q0,hg0,ht0,hv0,hd0,⟨g1,t1,cs1,f1,p1,q1,hg1,ht1,hv1,hd1,hq1,e1⟩,e0⟩,hnd,hrows⟩:=h
 obtain rfl:=Option.some.inj (hg.symm.trans hg0)
 obtain rfl:=Option.some.inj (hk.symm.trans hg1)
 obtain rfl:=Option.some.inj (ht.symm.trans ht0)
 obtain rfl:=Option.some.inj (hkt.symm.trans ht1)
 have hq1':q1=[]:=hq1
 subst hq1'
 subst e1
 subst e0
 obtain⟨l0⟩:=cs0
 obtain⟨l1⟩:=cs1
 have ok0:∀ u v,l0=[.iface u v]→Value.okWide Tryz.prog W .any 0 u v:=fun u v e=>by
  subst e
  exact (hrows g 0 (by simp[MemPlace.row])).2 u v (by simpa using World.var?_cell hg0 hv0 0)
 have ok1:∀ u v,l1=[.iface u v]→Value.okWide Tryz.prog W .any 0 u v:=fun u v e=>by
  subst e
  exact (hrows k 0 (by simp[MemPlace.row])).2 u v (by simpa using World.var?_cell hg1 hv1 0)
 obtain⟨a0,s0,rfl,hc0,hs0,hz0,rfl⟩:=errorString_of_trod Tryz.underlying26 esRow Tryz.underlying261 Tryz.underlying279 rfl rfl Tryz.underlying9 esCells strCells hd0 ok0
 obtain⟨a1,s1,rfl,hc1,hs1,hz1,rfl⟩:=errorString_of_trod Tryz.underlying26 esRow Tryz.underlying261 Tryz.underlying279 rfl rfl Tryz.underlying9 esCells strCells hd1 ok1
 have e0:W.cell? ⟨g,0,none⟩=some (errV a0):=by simpa using World.var?_cell hg0 hv0 0
 have e1:W.cell? ⟨k,0,none⟩=some (errV a1):=by simpa using World.var?_cell hg1 hv1 0
 rw[e0] at ha;rw[e1] at hb
 have ea:a0=a:=by injection ha with ha;injection ha with _ ha;injection ha with ha;injection ha
 have eb:a1=b:=by injection hb with hb;injection hb with _ hb;injection hb with hb;injection hb
 subst ea eb
 rintro rfl
 simp[MemPlace.row] at hnd
theorem gB:Tryz.prog.globalNamed "nurserypy/api.ErrBound"=some 0:=by kernel_rfl
theorem gBt:(Tryz.prog.globals[0]?).map (·.type)=some 26:=by kernel_rfl
theorem gS:Tryz.prog.globalNamed "nurserypy/api.ErrShape"=some 3:=by kernel_rfl
theorem gSt:(Tryz.prog.globals[3]?).map (·.type)=some 26:=by kernel_rfl
theorem gP:Tryz.prog.globalNamed "nurserypy/api.ErrPlace"=some 1:=by kernel_rfl
theorem gPt:(Tryz.prog.globals[1]?).map (·.type)=some 26:=by kernel_rfl
theorem gF:Tryz.prog.globalNamed "nurserypy/api.ErrFull"=some 2:=by kernel_rfl
theorem gFt:(Tryz.prog.globals[2]?).map (·.type)=some 26:=by kernel_rfl
theorem laidOut:laidOutB Tryz.prog=true:=by kernel_rfl
theorem trodAll_stays {H:Type} {enc:TypeId × Value→H} {W W':World} (hb:Ext W W'):∀ {ts:List TypeId} {vs:List Value} {ds:List (DataW H)} {ps:List MemPlace},
  (∀ t∈ts,Tryz.prog.readableRec t=true∧t<Tryz.prog.types.size)→(∀ x∈ps,x.block<W.heap.size) →
  DataW.TrodAll enc Tryz.prog W 0 (fun _=>true) true ts vs ds ps→DataW.TrodAll enc Tryz.prog W' 0 (fun b=>decide (b<W.heap.size)) true ts vs ds ps:=by
 intro ts
 induction ts with
 | nil =>
  intro vs ds ps _ _ h
  obtain⟨rfl,rfl,rfl⟩:=trodAll_nil h
  exact trodAll_mk0
 | cons t ts ih =>
  intro vs ds ps hr hlt h
  obtain⟨v,vs',d,ds',p,q,rfl,rfl,rfl,h0,r0⟩:=trodAll_cons h
  have ht:=hr t (by simp)
  exact trodAll_cons_mk (Below.trod laidOut ht.1 ht.2 h0 hb (fun x hx=>hlt x (by simp[hx]))) (ih (fun t h=>hr t (by simp[h])) (fun x hx=>hlt x (by simp[hx])) r0)
theorem law_post {H:Type} {enc:TypeId × Value→H} {f:Func} {s:ChangeSpec} {W W':World} {args:Array Value} {ds gs:List (DataW H)} {before:List MemPlace}
  (hrt:f.resultTypes=#[4]) (hsv:s.vars=[]) (hW:DataW.Whole enc Tryz.prog f.params.toList s.vars false W args.toList ds gs before)
  (hfn:s.fn H (ds++gs)={results:=[.lit (.bool true)],args:=ds}) (hr:∀ t∈f.params.toList,Tryz.prog.readableRec t=true∧t<Tryz.prog.types.size) (hb:Ext W W') :
  s.post enc Tryz.prog f false true false false W args (.bool true) W':=by
 have hlt:=fun x hx=>hW.lt x hx
 obtain⟨p,q,hA,hV,hpq,hfz,hnd⟩:=id hW
 rw[hsv] at hV
 obtain⟨rfl,rfl⟩:=trodVars_none hV
 subst hpq
 refine⟨ds,[],_,[],p,[],hW,?_,?_,?_,?_,fun h=>by cases h⟩
 ·rw[hfn,hrt];exact trodAll_mk1 (shut_bool Tryz.underlying4 true)
 ·rw[hfn];exact trodAll_stays hb hr (fun x hx=>by simpa using hlt x (by simp[hx])) hA
 ·rw[hfn,hsv];rfl
 ·exact hb.frame _
open Go.ChangeShapes Go.WideShapes Go.ChangeAt Go.RowKit
def laid8:List (String × DataW Unit):=[("errors.errorType", Rows.laid_errors_errorType),("nurserypy/api.ErrText", Rows.laid_nurserypy_api_ErrText),("nurserypy/api.ErrBound", Rows.laid_nurserypy_api_ErrBound),("nurserypy/api.ErrShape", Rows.laid_nurserypy_api_ErrShape),("nurserypy/api.ErrName", Rows.laid_nurserypy_api_ErrName),("nurserypy/api.ErrPlace", Rows.laid_nurserypy_api_ErrPlace),("nurserypy/api.ErrFull", Rows.laid_nurserypy_api_ErrFull),("nurserypy/api.ErrNone", Rows.laid_nurserypy_api_ErrNone)]
theorem etypeG:Tryz.prog.globalNamed "errors.errorType"=some 7:=by kernel_rfl
theorem etypeR:(Tryz.prog.cutTypes.find? (·.1 == "internal/reflectlite.rtype")).map (·.2)=some 206:=by kernel_rfl
theorem typesSize:Tryz.prog.types.size=291:=by kernel_rfl
theorem etypeRow:((List.range 291).filter fun t=>Tryz.prog.rowNamed t [101,114,114,111,114])=[26]:=by kernel_rfl
theorem etype_of_laid {W:World} (h:laidMetH Tryz.prog [("errors.errorType", Rows.laid_errors_errorType)] W):GEType W:=by
 have h':laidMet Tryz.prog [] W∧handlesMet Tryz.prog [("errors.errorType", Rows.laid_errors_errorType)] W:=h
 obtain⟨name,u,ty,e1,e2,e3,e4,e5⟩:=h'.2 _ (List.mem_singleton.2 rfl)
 have en:name=[101,114,114,111,114]:=(Option.some.inj e1).symm
 subst en
 obtain rfl:=Option.some.inj (etypeR.symm.trans e2)
 have hm:ty∈(List.range 291).filter fun t=>Tryz.prog.rowNamed t [101,114,114,111,114]:=List.mem_filter.2 ⟨List.mem_range.2 (by rw[←typesSize];exact e3),e4⟩
 rw[etypeRow] at hm
 obtain rfl:=List.mem_singleton.1 hm
 have hh:typeHandle Tryz.prog 26=.pointer (some ⟨11,26,none⟩):=by kernel_rfl
 rw[hh] at e5
 simpa using World.var?_cell etypeG e5 0
theorem gText_:Tryz.prog.globalNamed "nurserypy/api.ErrText"=some 4:=by kernel_rfl
theorem gTextt_:(Tryz.prog.globals[4]?).map (·.type)=some 26:=by kernel_rfl
theorem gName_:Tryz.prog.globalNamed "nurserypy/api.ErrName"=some 5:=by kernel_rfl
theorem gNamet_:(Tryz.prog.globals[5]?).map (·.type)=some 26:=by kernel_rfl
theorem gNone_:Tryz.prog.globalNamed "nurserypy/api.ErrNone"=some 6:=by kernel_rfl
theorem gNonet_:(Tryz.prog.globals[6]?).map (·.type)=some 26:=by kernel_rfl
theorem env_of_laid {W:World} (h:laidMetH Tryz.prog laid8 W):∃ E,ErrEnv E W:=by
 obtain⟨a0,_,c0,_⟩:=one_of_laid (W:=W) (n := "nurserypy/api.ErrText") (text:=_) gText_ gTextt_ (h.filter fun x=>x.1 == "nurserypy/api.ErrText")
 obtain⟨a1,_,c1,_⟩:=one_of_laid (W:=W) (n := "nurserypy/api.ErrBound") (text:=_) gB gBt (h.filter fun x=>x.1 == "nurserypy/api.ErrBound")
 obtain⟨a2,_,c2,_⟩:=one_of_laid (W:=W) (n := "nurserypy/api.ErrShape") (text:=_) gS gSt (h.filter fun x=>x.1 == "nurserypy/api.ErrShape")
 obtain⟨a3,_,c3,_⟩:=one_of_laid (W:=W) (n := "nurserypy/api.ErrName") (text:=_) gName_ gNamet_ (h.filter fun x=>x.1 == "nurserypy/api.ErrName")
 obtain⟨a4,_,c4,_⟩:=one_of_laid (W:=W) (n := "nurserypy/api.ErrPlace") (text:=_) gP gPt (h.filter fun x=>x.1 == "nurserypy/api.ErrPlace")
 obtain⟨a5,_,c5,_⟩:=one_of_laid (W:=W) (n := "nurserypy/api.ErrFull") (text:=_) gF gFt (h.filter fun x=>x.1 == "nurserypy/api.ErrFull")
 obtain⟨a6,_,c6,_⟩:=one_of_laid (W:=W) (n := "nurserypy/api.ErrNone") (text:=_) gNone_ gNonet_ (h.filter fun x=>x.1 == "nurserypy/api.ErrNone")
 have n01:a0≠a1:=two_of_laid (n := "nurserypy/api.ErrText") (m := "nurserypy/api.ErrBound") (tn:=_) (tm:=_) gText_ gTextt_ gB gBt (h.filter fun x=>x.1 == "nurserypy/api.ErrText"||x.1 == "nurserypy/api.ErrBound") c0 c1
 have n02:a0≠a2:=two_of_laid (n := "nurserypy/api.ErrText") (m := "nurserypy/api.ErrShape") (tn:=_) (tm:=_) gText_ gTextt_ gS gSt (h.filter fun x=>x.1 == "nurserypy/api.ErrText"||x.1 == "nurserypy/api.ErrShape") c0 c2
 have n03:a0≠a3:=two_of_laid (n := "nurserypy/api.ErrText") (m := "nurserypy/api.ErrName") (tn:=_) (tm:=_) gText_ gTextt_ gName_ gNamet_ (h.filter fun x=>x.1 == "nurserypy/api.ErrText"||x.1 == "nurserypy/api.ErrName") c0 c3
 have n04:a0≠a4:=two_of_laid (n := "nurserypy/api.ErrText") (m := "nurserypy/api.ErrPlace") (tn:=_) (tm:=_) gText_ gTextt_ gP gPt (h.filter fun x=>x.1 == "nurserypy/api.ErrText"||x.1 == "nurserypy/api.ErrPlace") c0 c4
 have n05:a0≠a5:=two_of_laid (n := "nurserypy/api.ErrText") (m := "nurserypy/api.ErrFull") (tn:=_) (tm:=_) gText_ gTextt_ gF gFt (h.filter fun x=>x.1 == "nurserypy/api.ErrText"||x.1 == "nurserypy/api.ErrFull") c0 c5
 have n06:a0≠a6:=two_of_laid (n := "nurserypy/api.ErrText") (m := "nurserypy/api.ErrNone") (tn:=_) (tm:=_) gText_ gTextt_ gNone_ gNonet_ (h.filter fun x=>x.1 == "nurserypy/api.ErrText"||x.1 == "nurserypy/api.ErrNone") c0 c6
 have n12:a1≠a2:=two_of_laid (n := "nurserypy/api.ErrBound") (m := "nurserypy/api.ErrShape") (tn:=_) (tm:=_) gB gBt gS gSt (h.filter fun x=>x.1 == "nurserypy/api.ErrBound"||x.1 == "nurserypy/api.ErrShape") c1 c2
 have n13:a1≠a3:=two_of_laid (n := "nurserypy/api.ErrBound") (m := "nurserypy/api.ErrName") (tn:=_) (tm:=_) gB gBt gName_ gNamet_ (h.filter fun x=>x.1 == "nurserypy/api.ErrBound"||x.1 == "nurserypy/api.ErrName") c1 c3
 have n14:a1≠a4:=two_of_laid (n := "nurserypy/api.ErrBound") (m := "nurserypy/api.ErrPlace") (tn:=_) (tm:=_) gB gBt gP gPt (h.filter fun x=>x.1 == "nurserypy/api.ErrBound"||x.1 == "nurserypy/api.ErrPlace") c1 c4
 have n15:a1≠a5:=two_of_laid (n := "nurserypy/api.ErrBound") (m := "nurserypy/api.ErrFull") (tn:=_) (tm:=_) gB gBt gF gFt (h.filter fun x=>x.1 == "nurserypy/api.ErrBound"||x.1 == "nurserypy/api.ErrFull") c1 c5
 have n16:a1≠a6:=two_of_laid (n := "nurserypy/api.ErrBound") (m := "nurserypy/api.ErrNone") (tn:=_) (tm:=_) gB gBt gNone_ gNonet_ (h.filter fun x=>x.1 == "nurserypy/api.ErrBound"||x.1 == "nurserypy/api.ErrNone") c1 c6
 have n23:a2≠a3:=two_of_laid (n := "nurserypy/api.ErrShape") (m := "nurserypy/api.ErrName") (tn:=_) (tm:=_) gS gSt gName_ gNamet_ (h.filter fun x=>x.1 == "nurserypy/api.ErrShape"||x.1 == "nurserypy/api.ErrName") c2 c3
 have n24:a2≠a4:=two_of_laid (n := "nurserypy/api.ErrShape") (m := "nurserypy/api.ErrPlace") (tn:=_) (tm:=_) gS gSt gP gPt (h.filter fun x=>x.1 == "nurserypy/api.ErrShape"||x.1 == "nurserypy/api.ErrPlace") c2 c4
 have n25:a2≠a5:=two_of_laid (n := "nurserypy/api.ErrShape") (m := "nurserypy/api.ErrFull") (tn:=_) (tm:=_) gS gSt gF gFt (h.filter fun x=>x.1 == "nurserypy/api.ErrShape"||x.1 == "nurserypy/api.ErrFull") c2 c5
 have n26:a2≠a6:=two_of_laid (n := "nurserypy/api.ErrShape") (m := "nurserypy/api.ErrNone") (tn:=_) (tm:=_) gS gSt gNone_ gNonet_ (h.filter fun x=>x.1 == "nurserypy/api.ErrShape"||x.1 == "nurserypy/api.ErrNone") c2 c6
 have n34:a3≠a4:=two_of_laid (n := "nurserypy/api.ErrName") (m := "nurserypy/api.ErrPlace") (tn:=_) (tm:=_) gName_ gNamet_ gP gPt (h.filter fun x=>x.1 == "nurserypy/api.ErrName"||x.1 == "nurserypy/api.ErrPlace") c3 c4
 have n35:a3≠a5:=two_of_laid (n := "nurserypy/api.ErrName") (m := "nurserypy/api.ErrFull") (tn:=_) (tm:=_) gName_ gNamet_ gF gFt (h.filter fun x=>x.1 == "nurserypy/api.ErrName"||x.1 == "nurserypy/api.ErrFull") c3 c5
 have n36:a3≠a6:=two_of_laid (n := "nurserypy/api.ErrName") (m := "nurserypy/api.ErrNone") (tn:=_) (tm:=_) gName_ gNamet_ gNone_ gNonet_ (h.filter fun x=>x.1 == "nurserypy/api.ErrName"||x.1 == "nurserypy/api.ErrNone") c3 c6
 have n45:a4≠a5:=two_of_laid (n := "nurserypy/api.ErrPlace") (m := "nurserypy/api.ErrFull") (tn:=_) (tm:=_) gP gPt gF gFt (h.filter fun x=>x.1 == "nurserypy/api.ErrPlace"||x.1 == "nurserypy/api.ErrFull") c4 c5
 have n46:a4≠a6:=two_of_laid (n := "nurserypy/api.ErrPlace") (m := "nurserypy/api.ErrNone") (tn:=_) (tm:=_) gP gPt gNone_ gNonet_ (h.filter fun x=>x.1 == "nurserypy/api.ErrPlace"||x.1 == "nurserypy/api.ErrNone") c4 c6
 have n56:a5≠a6:=two_of_laid (n := "nurserypy/api.ErrFull") (m := "nurserypy/api.ErrNone") (tn:=_) (tm:=_) gF gFt gNone_ gNonet_ (h.filter fun x=>x.1 == "nurserypy/api.ErrFull"||x.1 == "nurserypy/api.ErrNone") c5 c6
 have b0:=blk_of_laid (W:=W) (n := "nurserypy/api.ErrText") (text:=_) gText_ gTextt_ (h.filter fun x=>x.1 == "nurserypy/api.ErrText") c0
 have b1:=blk_of_laid (W:=W) (n := "nurserypy/api.ErrBound") (text:=_) gB gBt (h.filter fun x=>x.1 == "nurserypy/api.ErrBound") c1
 have b2:=blk_of_laid (W:=W) (n := "nurserypy/api.ErrShape") (text:=_) gS gSt (h.filter fun x=>x.1 == "nurserypy/api.ErrShape") c2
 have b3:=blk_of_laid (W:=W) (n := "nurserypy/api.ErrName") (text:=_) gName_ gNamet_ (h.filter fun x=>x.1 == "nurserypy/api.ErrName") c3
 have b4:=blk_of_laid (W:=W) (n := "nurserypy/api.ErrPlace") (text:=_) gP gPt (h.filter fun x=>x.1 == "nurserypy/api.ErrPlace") c4
 have b5:=blk_of_laid (W:=W) (n := "nurserypy/api.ErrFull") (text:=_) gF gFt (h.filter fun x=>x.1 == "nurserypy/api.ErrFull") c5
 have b6:=blk_of_laid (W:=W) (n := "nurserypy/api.ErrNone") (text:=_) gNone_ gNonet_ (h.filter fun x=>x.1 == "nurserypy/api.ErrNone") c6
 refine⟨fun i=>match i with|0=>a0|1=>a1|2=>a2|3=>a3|4=>a4|5=>a5|_=>a6,c0,c1,c2,c3,c4,c5,c6,etype_of_laid (h.filter fun x=>x.1 == "errors.errorType"),?_,?_⟩
 ·intro i hi
  match i,hi with
  | 0,_=>exact b0
  | 1,_=>exact b1
  | 2,_=>exact b2
  | 3,_=>exact b3
  | 4,_=>exact b4
  | 5,_=>exact b5
  | 6,_=>exact b6
 ·intro i j hi hj hij
  match i,hi,j,hj,hij with
  | 0,_,1,_,_=>exact n01
  | 0,_,2,_,_=>exact n02
  | 0,_,3,_,_=>exact n03
  | 0,_,4,_,_=>exact n04
  | 0,_,5,_,_=>exact n05
  | 0,_,6,_,_=>exact n06
  | 1,_,0,_,_=>exact n01.symm
  | 1,_,2,_,_=>exact n12
  | 1,_,3,_,_=>exact n13
  | 1,_,4,_,_=>exact n14
  | 1,_,5,_,_=>exact n15
  | 1,_,6,_,_=>exact n16
  | 2,_,0,_,_=>exact n02.symm
  | 2,_,1,_,_=>exact n12.symm
  | 2,_,3,_,_=>exact n23
  | 2,_,4,_,_=>exact n24
  | 2,_,5,_,_=>exact n25
  | 2,_,6,_,_=>exact n26
  | 3,_,0,_,_=>exact n03.symm
  | 3,_,1,_,_=>exact n13.symm
  | 3,_,2,_,_=>exact n23.symm
  | 3,_,4,_,_=>exact n34
  | 3,_,5,_,_=>exact n35
  | 3,_,6,_,_=>exact n36
  | 4,_,0,_,_=>exact n04.symm
  | 4,_,1,_,_=>exact n14.symm
  | 4,_,2,_,_=>exact n24.symm
  | 4,_,3,_,_=>exact n34.symm
  | 4,_,5,_,_=>exact n45
  | 4,_,6,_,_=>exact n46
  | 5,_,0,_,_=>exact n05.symm
  | 5,_,1,_,_=>exact n15.symm
  | 5,_,2,_,_=>exact n25.symm
  | 5,_,3,_,_=>exact n35.symm
  | 5,_,4,_,_=>exact n45.symm
  | 5,_,6,_,_=>exact n56
  | 6,_,0,_,_=>exact n06.symm
  | 6,_,1,_,_=>exact n16.symm
  | 6,_,2,_,_=>exact n26.symm
  | 6,_,3,_,_=>exact n36.symm
  | 6,_,4,_,_=>exact n46.symm
  | 6,_,5,_,_=>exact n56.symm
  | 0,_,0,_,hij=>exact absurd rfl hij
  | 1,_,1,_,hij=>exact absurd rfl hij
  | 2,_,2,_,hij=>exact absurd rfl hij
  | 3,_,3,_,hij=>exact absurd rfl hij
  | 4,_,4,_,hij=>exact absurd rfl hij
  | 5,_,5,_,hij=>exact absurd rfl hij
  | 6,_,6,_,hij=>exact absurd rfl hij
end Go.Proofs.YtelhoppfidibiaaGreatDoor
