/- The law HeapInts, walked. -/
import Derived.Test.YtelhoppfidibiaaGreatDoorJUp02
import Derived.Test.YtelhoppfidibiaaGreatDoorJUp01
import Derived.Test.YtelhoppfidibiaaGreatDoorJUa01
import Derived.Test.YtelhoppfidibiaaGreatDoorJTa43
import Derived.Test.YtelhoppfidibiaaGreatDoorJUa02
import Derived.Test.YtelhoppfidibiaaGreatDoorJTa38
import Derived.Test.YtelhoppfidibiaaGreatDoorJTa44
import Derived.Test.YtelhoppfidibiaaGreatDoorTie
set_option linter.unusedSimpArgs false
set_option linter.unusedVariables false
set_option maxHeartbeats 16000000
set_option maxRecDepth 100000
namespace Go.Proofs.YtelhoppfidibiaaGreatDoor
open Go.RowKit
theorem hnew2i_yes (half old card ten:Int) (h:newOK half old card=true) (ht:0≤ten∧ten≤15) (w:World) :
  Calls Tryz.prog 10 #[.agg #[.int .i64 half,.int .i64 old,.int .i64 card,.int .i64 ten],.int .i64 2] w (HNewPost w ten (newHM half old card 2)):=hnew_yes half old card ten 2 h ht (by omega) w
theorem newMod2 (w:World):Calls Tryz.prog 17 #[.int .i64 2] w fun e w'=>∃ X,e=.returned (.pointer (some ⟨X.mb,0,none⟩))∧RMod w' w.heap.size (Ideal.fresh 2) 1 X∧Ext w w':=newModelR_walk 2 (by omega) w
theorem hin_ai (half:Int) (h:newOK half 50 4=true):AI (newHM half 50 4 2) 1 50 2 0:=by
 refine⟨newHM_inv half 50 4 2 h (by omega),rfl,?_,?_,?_,by omega⟩<;>simp[newHM,newM]
structure HIn (w wr:World) (B hb b k:Nat) (M:Mem) (S:Sls) (I:Ideal):Prop where
 oh:OHeap wr B hb b M S 1 1
 ai:AI M 1 50 2 k
 hi:Holds I M
 ext:Ext w wr
section
variable {w wr w' wA:World} {B hb b k s:Nat} {M:Mem} {S:Sls} {E:Nat→Addr} {I J:Ideal} {ak:AK} {x:ActP} {e:Ending} {X:MPl} {nn:Int}
theorem HIn.go (h:HIn w wr B hb b k M S I) (hB:w.heap.size≤B) (hp:IPost wr B hb b S E 1 50 2 k I 1 M ak x V1 e w') (he:errI I ak x=0) (hs:(I.P.map fun a=>1+szW I.V a).sum≤s) (hq:(s:Int)+needI ak x≤50) (hk:ak≠.look) (hd:doN I 1 ak x false=(J,1)) :
  e=.returned .nilIface∧∃ M' S',HIn w w' B hb b (k+1) M' S' J:=by
 obtain⟨c,n,is,M',S',I',nx',h0,h1,h2,h3,h4⟩:=hp
 obtain⟨r1,r2,r3⟩:=h4.goes h.hi h.ai.inv he hs hq hk
 rw[hd] at r2
 obtain⟨r4,r5⟩:=Prod.mk.inj r2
 subst r1 r4 r5
 exact⟨h0,M',S',h1,h3,r3,HStep.extB h.ext hB h.oh h2⟩
theorem hmd_go (hR:RMod wr wA.heap.size I 1 X) (hx:Ext wA wr) (hp:DoPost wr wA.heap.size I X J 1 nn e w'):e=.returned (.int .i64 nn)∧∃ X',X'.mb=X.mb∧RMod w' wA.heap.size J 1 X'∧Ext wA w':=by
 obtain⟨h0,X',h1,h2,h3,h4⟩:=hp
 exact⟨h0,X',h1,h2,Ext.keep hx h3 fun i hi=>(hR.own hi).1⟩
end
theorem heapInts_any (n half:Int) (w:World) (E:Nat→Addr) (hE:G4 E w) (hT:Tabs w) (hn:I64 n) :
  Calls Tryz.prog 4 #[.int .i64 n,.int .i64 half] w fun e w'=>e=.returned (.bool true)∧Ext w w':=by
 have HE:=Lib.hid hE
 have HT:=Lib.hid hT
 have HN:=Lib.hid hn
 clear hE hT hn
 have h3:half<2∨(¬half<2∧100<half)∨(¬half<2∧¬100<half):=by omega
 rcases h3 with z1|⟨z1,z2⟩|⟨z1,z2⟩
 rotate_right
 ·have hok:newOK half 50 4=true:=by
   unfold newOK
   rw[inR_true.2 ⟨by omega,by omega⟩,inR_true.2 ⟨by omega,by omega⟩,inR_true.2 ⟨by omega,by omega⟩];rfl
  have HOK:=Lib.hid hok
  have HA:=Lib.hid (hin_ai half hok)
  clear hok
  go_enter Tryz.func4,Tryz.ntmps4
  go_upto_region 4 with (go_at_call 9;refine (hold_walk E _ HE.out HT.out).mono ?_;rintro e w1 ⟨rfl,hq⟩;have HX1:=Lib.hid hq;clear hq)
  have HGB:=Lib.hid ((HE.out.ext HX1.out).gb)
  have HZ:Hid (w.heap.size≤w1.heap.size):=HX1.out.size
  go_upto_region 5 with (go_at_call 10;refine (hnew2i_yes half 50 4 1 HOK.out (by omega) _).mono ?_;rintro e w2 ⟨hb,b,S0,rfl,h1,hq⟩;have I0:Hid (HIn w w2 w1.heap.size hb b 0 (newHM half 50 4 2) S0 hJ0):=⟨h1,HA.out,holds_fresh _ _ _ 2,HX1.out.trans_ hq⟩;clear h1 hq)
  go_upto_region 7 with (first
   | (go_at_call 11;refine (make_ax I0.out.oh I0.out.ai (HE.out.ext I0.out.ext) (by omega) HGB.out I0.out.hi (by decide) hx1 (by unfold I64;decide)).mono ?_;rintro e w3 hp;obtain⟨he,M1,S1,h1⟩:=I0.out.go HZ.out hp hE1 (Nat.le_of_eq rfl) (s:=0) (by decide) (fun h=>by cases h) (J:=hJ1) rfl;subst he;have I1:=Lib.hid h1;clear hp h1)
   | (go_at_call 15;refine (int_ax I1.out.oh I1.out.ai (HE.out.ext I1.out.ext) (by omega) HGB.out I1.out.hi (by decide) (hx2 n) i64_0).mono ?_;rintro e w4 hp;obtain⟨he,M2,S2,h1⟩:=I1.out.go HZ.out hp (hE2 n) (Nat.le_of_eq hS1) (s:=2) (by have h9:needI .int (hx2 n)≤2:=(by show (if smallB n then (0:Int) else 2)≤2;split<;>omega);omega) (fun h=>by cases h) (J:=hJ2 n) rfl;subst he;have I2:=Lib.hid h1;clear hp h1)
   | (go_at_call 16;refine (put_ax I2.out.oh I2.out.ai (HE.out.ext I2.out.ext) (by omega) HGB.out I2.out.hi (by have:=(hW2 HN.out).2.1;omega) hx3 (by unfold I64;decide) (by unfold I64;decide)).mono ?_;rintro e w5 hp;obtain⟨he,M3,S3,h1⟩:=I2.out.go HZ.out hp (hE3 n) (hS2 n) (s:=4) (by decide) (fun h=>by cases h) (J:=hJ3 n) rfl;subst he;have I3:=Lib.hid h1;clear hp h1)
   | (go_at_call 12;refine (minor_ax I3.out.oh I3.out.ai (HE.out.ext I3.out.ext) (by omega) HGB.out I3.out.hi (by have:=(hW3 HN.out).2.1;omega) hx3).mono ?_;rintro e w6 hp;obtain⟨he,M4,S4,h1⟩:=I3.out.go HZ.out hp rfl (hS3 n) (s:=4) (by decide) (fun h=>by cases h) (J:=hJ3 n) rfl;subst he;have I4:=Lib.hid h1;clear hp h1))
  go_upto_region 8 with (go_at_call 17;refine (newMod2 _).mono ?_;rintro e w7 ⟨X,rfl,h1,h2⟩;have R0:=Lib.hid h1;have X0:=Lib.hid h2;clear h1 h2)
  go_upto_region 9 with (go_at_call 18;have hc:=do_make hx1 _ R0.out (iwf_fresh 2) (by decide) hE1;refine hc.mono ?_;clear hc;rintro e w8 hp;obtain⟨he,Y1,hm,h1,h2⟩:=hmd_go R0.out X0.out hp;subst he;have R1:=Lib.hid (show RMod _ _ (hJ1) 1 _ from h1);have X11:=Lib.hid h2;have B1:=Lib.hid (hm);clear hp h1 h2 hm)
  go_upto_region 10 with (go_at_call 18;have hc:=do_int (hx2 n) _ R1.out hW1.1 (by decide) HN.out (hE2 n);rw[B1.out] at hc;refine hc.mono ?_;clear hc;rintro e w9 hp;obtain⟨he,Y2,hm,h1,h2⟩:=hmd_go R1.out X11.out hp;subst he;have R2:=Lib.hid (show RMod _ _ (hJ2 n) 1 _ from h1);have X12:=Lib.hid h2;have B2:=Lib.hid (hm.trans B1.out);clear hp h1 h2 hm)
  go_upto_region 11 with (go_at_call 18;have hc:=do_put hx3 _ R2.out (hW2 HN.out).1 (by have:=(hW2 HN.out).2.1;omega) (hE3 n);rw[B2.out] at hc;refine hc.mono ?_;clear hc;rintro e w10 hp;obtain⟨he,Y3,hm,h1,h2⟩:=hmd_go R2.out X12.out hp;subst he;have R3:=Lib.hid (show RMod _ _ (hJ3 n) 1 _ from h1);have X12z:=Lib.hid h2;have B3:=Lib.hid (hm.trans B2.out);clear hp h1 h2 hm)
  obtain⟨s1,s2⟩:=I4.out.hi.show I4.out.ai.inv (hW3 HN.out).1
  obtain⟨sh,hsh⟩:∃ sh,showI (hJ3 n)=sh:=⟨_,rfl⟩
  rw[hsh] at s1
  have HSH:=Lib.hid hsh
  have HS:=Lib.hid s1
  have HS2:=Lib.hid s2
  have HW:=Lib.hid (hW3 HN.out)
  have HFW:=Lib.hid (I4.out.ai.inv.few (by rw[I4.out.ai.roots];omega) (by have:=I4.out.ai.weak;omega) (by have:=I4.out.ai.ids;omega))
  clear s1 s2 hsh
  go_wp2_with (first
   | (go_at_call 19;refine (show2_walk _ b M4 S4 _ ((I4.out.oh.ext X12z.out).mem.mem I4.out.ai.inv.ok) (I4.out.oh.ext X12z.out).ptr (chk_zero I4.out.ai.inv.chk).1 HFW.out (HT.out.ext (I4.out.ext.trans_ X12z.out)) HS2.out).mono ?_;rintro e w11 ⟨he,hq⟩;rw[HS.out] at he;subst he;have X13:=Lib.hid hq;clear hq)
   | (go_at_call 20;have hc:=modShow_walk _ _ _ _ _ (R3.out.ext X13.out) HW.out.1 (by have:=HW.out.2.1;omega) (by have:=HW.out.2.2;omega);rw[B3.out] at hc;refine hc.mono ?_;clear hc;rintro e w12 ⟨he,hq⟩;rw[HSH.out] at he;subst he;have X14:=Lib.hid hq;clear hq))
  go_ret
  exact⟨by simp,I4.out.ext.trans_ (X12z.out.trans_ (X13.out.trans_ X14.out))⟩
 all_goals
  go_enter Tryz.func4,Tryz.ntmps4
  go_wp2_with (go_at_call 9;refine (hold_walk E _ HE.out HT.out).mono ?_;rintro e w1 ⟨rfl,hq⟩;have HX1:=Lib.hid hq;clear hq)
  go_ret
  exact⟨rfl,HX1.out⟩
end Go.Proofs.YtelhoppfidibiaaGreatDoor
namespace Go.Proofs.YtelhoppfidibiaaGreatDoor
open Go.ChangeShapes Go.WideShapes Go.ChangeAt Go.RowKit
def laid4:List (String × DataW Unit):=[("nurserypy/api.ErrBound", Rows.laid_nurserypy_api_ErrBound),("nurserypy/api.ErrShape", Rows.laid_nurserypy_api_ErrShape),("nurserypy/api.ErrPlace", Rows.laid_nurserypy_api_ErrPlace),("nurserypy/api.ErrFull", Rows.laid_nurserypy_api_ErrFull)]
theorem g4_of_laid {W:World} (h:laidMetH Tryz.prog laid4 W):∃ E,G4 E W:=by
 obtain⟨a1,_,c1,_⟩:=one_of_laid (W:=W) (n := "nurserypy/api.ErrBound") (text:=_) gB gBt (h.filter fun x=>x.1 == "nurserypy/api.ErrBound")
 obtain⟨a2,_,c2,_⟩:=one_of_laid (W:=W) (n := "nurserypy/api.ErrShape") (text:=_) gS gSt (h.filter fun x=>x.1 == "nurserypy/api.ErrShape")
 obtain⟨a4,_,c4,_⟩:=one_of_laid (W:=W) (n := "nurserypy/api.ErrPlace") (text:=_) gP gPt (h.filter fun x=>x.1 == "nurserypy/api.ErrPlace")
 obtain⟨a5,_,c5,_⟩:=one_of_laid (W:=W) (n := "nurserypy/api.ErrFull") (text:=_) gF gFt (h.filter fun x=>x.1 == "nurserypy/api.ErrFull")
 exact⟨fun i=>match i with|1=>a1|2=>a2|4=>a4|_=>a5,⟨c1,c2,c4⟩,c5⟩
end Go.Proofs.YtelhoppfidibiaaGreatDoor
namespace Go.Proofs.YtelhoppfidibiaaGreatDoor.HeapInts
open Go.ChangeShapes Go.WideShapes Go.ChangeAt Go.RowKit
open Go.ChangeMaps (open_string)
theorem contract (H:Type) (enc:TypeId × Value→H) (W:World) (base:Nat) (args:Array Value) (ds gs:List (DataW H)) (before:List MemPlace)
  (hval:∀ (j:Nat) t v,Tryz.f4.params[j]?=some t→args[j]?=some v→Value.okWide Tryz.prog W .any base t v)
  (hW:DataW.Whole enc Tryz.prog Tryz.f4.params.toList Rows.heapIntsSpec.vars false W args.toList ds gs before)
  (hsz:(DataW.weightsEach Tryz.prog (Tryz.f4.params.toList++(OpenSpec.ofChange Rows.heapIntsSpec).bare.plain.varTypes Tryz.prog) (ds++gs)).all (·≤reachBytes)=true) (hL:laidMetH Tryz.prog Rows.heapIntsRow.laid W) :
  Calls Tryz.prog 4 args W fun e W'=>∃ v,e=.returned v∧Rows.heapIntsSpec.post enc Tryz.prog Tryz.f4 false true false false W args v W':=by
 have hW':=hW
 obtain⟨p,q,hA0,hV,rfl,hfz,hnd⟩:=hW
 have hA:DataW.TrodAll enc Tryz.prog W 0 (fun _=>true) true Tryz.f4.params.toList args.toList ds p:=hA0
 rw[Tryz.params4] at hA hval
 obtain⟨v0,vs0,d0,ds0,p0,q0,hargs,rfl,rfl,h0,r0⟩:=trodAll_cons hA
 obtain⟨v1,vs1,d1,ds1,p1,q1,rfl,rfl,rfl,h1,r1⟩:=trodAll_cons r0
 obtain⟨rfl,rfl,rfl⟩:=trodAll_nil r1
 obtain rfl:args=#[v0,v1]:=by cases args;simp_all
 obtain⟨rfl,rfl⟩:=trodVars_none hV
 obtain⟨x0,rfl,rfl,rfl,w0⟩:=open_int Tryz.underlying2 (hval 0 2 v0 rfl rfl) h0
 obtain⟨x1,rfl,rfl,rfl,w1⟩:=open_int Tryz.underlying3 (hval 1 3 v1 rfl rfl) h1
 obtain⟨E,hE⟩:=g4_of_laid (W:=W) (hL.filter fun x=>laid4.any (·.1==x.1))
 have hT:Tabs W:=tabs_of_laid (hL.filter fun x=>x.1 == "math/bits.deBruijn64tab"||x.1 == "internal/strconv.uint64pow10")
 clear hA0
 refine (heapInts_any x0 x1 W E hE hT  (wf_i64 w0)).mono fun e W' ⟨he,hg⟩=>?_
 subst he
 exact⟨_,rfl,law_post rfl rfl hW' (by simp[Rows.heapIntsSpec]) (by decide +kernel) hg⟩
end Go.Proofs.YtelhoppfidibiaaGreatDoor.HeapInts
namespace Go.Proofs.YtelhoppfidibiaaGreatDoor.HeapInts
open Go.ChangeShapes Go.WideShapes Go.ChangeAt Go.RowKit
theorem laid_met (os:Os):laidMetH Tryz.prog Rows.heapIntsRow.laid ((World.doorLaid Tryz.prog 200 os).forCall (fun _ _=>0) ⟨#[],#[.int .i64 0,.int .i64 0],[]⟩).memory :=
 laidMetH_of_parts3 (fuel:=8) (laidMet_of_run' 8 (by kernel_rfl) (by kernel_rfl)) (by kernel_rfl) (by kernel_rfl)
theorem reads (os:Os) {H:Type} (enc:TypeId × Value→H):∃ places,DataW.whole enc Tryz.prog ((World.doorLaid Tryz.prog 200 os).forCall (fun _ _=>0) ⟨#[],#[.int .i64 0,.int .i64 0],[]⟩).memory Tryz.f4.params.toList Rows.heapIntsSpec.vars false #[.int .i64 0,.int .i64 0].toList 8=some ([.lit (.int .i64 0),.lit (.int .i64 0)],[],places) :=
 ⟨[],by kernel_rfl⟩
theorem lifted (os:Os) (started:os.Started) (H:Type) (enc:TypeId × Value→H) (F:Stop.Interp) :
  ReturnsInHanded {} Tryz.checked os 4 .any ((OpenSpec.ofChange Rows.heapIntsSpec).preRow enc Tryz.prog Tryz.f4 Rows.heapIntsRow.domain false Rows.heapIntsRow.laid) (((OpenSpec.ofChange Rows.heapIntsSpec).at F).post enc Tryz.prog Tryz.f4 false true false false):=by
 obtain⟨places,hx⟩:=reads os enc
 refine returnsInHanded_of_row (C:=Tryz.checked) (s:=OpenSpec.ofChange Rows.heapIntsSpec) own started (by kernel_rfl) Tryz.func4
  (witness_row_atRef (enc:=enc) (C:=Tryz.checked) false (World.doorLaid Tryz.prog 200 os) #[.int .i64 0,.int .i64 0] rfl (by kernel_rfl) (by kernel_rfl) (by kernel_rfl)
   (OpenSpec.preRow_of_cond 8 hx (by kernel_rfl) (fun k hk=>by cases hk) (by kernel_rfl) (laid_met os))) ?_
 intro W base args ds gs before hval hW _ _ hsz hL _ _
 exact contract H enc W base args ds gs before hval hW hsz hL
end Go.Proofs.YtelhoppfidibiaaGreatDoor.HeapInts
namespace Go.Proofs.YtelhoppfidibiaaGreatDoor.HeapInts
open Go.ChangeShapes Go.WideShapes Go.ChangeAt Go.RowKit
theorem said:Rows.HeapIntsSaid :=
 OpenClaim.holds_of_cond 4 Tryz.f4 rfl rfl rfl rfl rfl rfl rfl ⟨rfl,rfl,rfl,rfl,rfl⟩ rfl rfl rfl rfl rfl (by kernel_rfl) Tryz.func4 closed
  (of_decide_eq_true (by kernel_rfl)) (by unfold Func.isWrapper;first|(rw[if_pos (by decide +kernel)];kernel_rfl)|(rw[if_neg (by decide +kernel)];exact⟨rfl,rfl⟩))
  (fun os started H enc _ F=>by rw[OpenClaim.pre_eq_preRow];exact lifted os started H enc F)
theorem looks0:true=Tryz.pinned.checked.prog.looks []:=by kernel_rfl
theorem plain (f:FuncId) (fn:Func) (hf:Tryz.pinned.checked.prog.funcNamed "nurserypy/nurserypylaw3.HeapInts"=some f) (hfn:Tryz.pinned.checked.prog.funcs[f]?=some fn) :
  true=Tryz.pinned.checked.prog.looks []∧∀ (j:Nat) t,fn.params[j]?=some t→Tryz.pinned.checked.prog.wantsStandIn t=false:=by
 obtain rfl:f=4:=Option.some.inj ((show Tryz.prog.funcNamed "nurserypy/nurserypylaw3.HeapInts"=some 4 by kernel_rfl).symm.trans hf) |>.symm
 obtain rfl:fn=Tryz.f4:=(Option.some.inj (Tryz.func4.symm.trans hfn)).symm
 refine⟨looks0,fun j t ht=>?_⟩
 rw[Tryz.params4] at ht
 have hm:=Array.mem_of_getElem? ht
 simp only[List.mem_toArray,List.mem_cons,List.not_mem_nil,or_false] at hm
 rcases hm with rfl|rfl
 ·exact (show Tryz.prog.wantsStandIn 2=false by kernel_rfl)
 ·exact (show Tryz.prog.wantsStandIn 3=false by kernel_rfl)
theorem wfT:Rows.heapIntsRow.wfByText (OpenSpec.ofChange Rows.heapIntsSpec)=true:=by kernel_rfl
theorem goesB:false=Rows.heapIntsRow.goesBy Tryz.pinned.checked.prog:=by kernel_rfl
theorem mainI:Tryz.pinned.checked.prog.mainIs=some (Rows.heapIntsCard.stood.harness.1,Rows.heapIntsCard.stood.harness.2.toList):=by kernel_rfl
theorem heapInts_holds:Rows.HeapIntsCardSaid :=
 Claim7.holds_tied_plain_at .later [] _ _ _ _ said (fun _ h=>by cases h) wfT (fun _ h=>by cases h) heapInts_row_tie rfl ⟨rfl,rfl⟩ mainI rfl plain goesB
end Go.Proofs.YtelhoppfidibiaaGreatDoor.HeapInts
