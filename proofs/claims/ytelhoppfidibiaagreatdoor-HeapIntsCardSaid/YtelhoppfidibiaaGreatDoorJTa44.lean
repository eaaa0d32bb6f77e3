/- From the rows' lists to the library's tables that texts of numbers read. -/
import Derived.Test.YtelhoppfidibiaaGreatDoorJTa36
import Derived.Test.YtelhoppfidibiaaGreatDoorJTa43
import Derived.LaidSub
import Derived.Test.YtelhoppfidibiaaGreatDoorJTa26
import Derived.Test.YtelhoppfidibiaaGreatDoorTie
set_option linter.unusedSimpArgs false
set_option linter.unusedVariables false
set_option maxRecDepth 100000
namespace Go.Proofs.YtelhoppfidibiaaGreatDoor
open Go.ChangeShapes Go.WideShapes Go.ChangeAt Go.RowKit
theorem pow10G:Tryz.prog.globalNamed "internal/strconv.uint64pow10"=some 8:=by kernel_rfl
theorem pow10T:(Tryz.prog.globals[8]?).map (·.type)=some 245:=by kernel_rfl
theorem pow10D:(Rows.laid_internal_strconv_uint64pow10:DataW Unit)=Lib.tabData .u64 Lib.pow10Tab:=by kernel_rfl
theorem tz64G:Tryz.prog.globalNamed "math/bits.deBruijn64tab"=some 10:=by kernel_rfl
theorem tz64T:(Tryz.prog.globals[10]?).map (·.type)=some 260:=by kernel_rfl
theorem tz64D:(Rows.laid_math_bits_deBruijn64tab:DataW Unit)=Lib.tabData .u8 [0,1,56,2,57,49,28,3,61,58,42,50,38,29,17,4,62,47,59,36,45,43,51,22,53,39,33,30,24,18,12,5,63,55,48,27,60,41,37,16,46,35,44,21,52,32,23,11,54,26,40,15,34,20,31,10,25,14,19,9,13,8,7,6]:=by kernel_rfl
theorem pow_of_laid {W:World} (h:laidMetH Tryz.prog [("internal/strconv.uint64pow10", Rows.laid_internal_strconv_uint64pow10)] W):Lib.TabIs Tryz.prog W "internal/strconv.uint64pow10" .u64 Lib.pow10Tab:=by
 rw[pow10D] at h
 replace h:=(laidMetH_iff.1 h).1
 exact Lib.tabIs_of_head (t:=245) (e:=78) (n:=20) pow10G pow10T (by kernel_rfl) (by kernel_rfl) (by kernel_rfl) (by kernel_rfl) h
theorem tz_of_laid {W:World} (h:laidMetH Tryz.prog [("math/bits.deBruijn64tab", Rows.laid_math_bits_deBruijn64tab)] W):Tz16 W:=by
 rw[tz64D] at h
 replace h:=(laidMetH_iff.1 h).1
 exact (Lib.tabIs_of_head (t:=260) (e:=5) (n:=64) tz64G tz64T (by kernel_rfl) (by kernel_rfl) (by kernel_rfl) (by kernel_rfl) h).cell tz64G 15 (by decide)
theorem tabs_of_laid {W:World} (h:laidMetH Tryz.prog [("math/bits.deBruijn64tab", Rows.laid_math_bits_deBruijn64tab),("internal/strconv.uint64pow10", Rows.laid_internal_strconv_uint64pow10)] W):Tabs W :=
 ⟨pow_of_laid (h.filter fun x=>x.1 == "internal/strconv.uint64pow10"),tz_of_laid (h.filter fun x=>x.1 == "math/bits.deBruijn64tab")⟩
end Go.Proofs.YtelhoppfidibiaaGreatDoor
namespace Go.Proofs.YtelhoppfidibiaaGreatDoor.HeapAlike
open Go.ChangeShapes Go.WideShapes Go.ChangeAt Go.RowKit
open Go.ChangeMaps (open_string)
theorem contract (H:Type) (enc:TypeId × Value→H) (W:World) (base:Nat) (args:Array Value) (ds gs:List (DataW H)) (before:List MemPlace)
  (hval:∀ (j:Nat) t v,Tryz.f7.params[j]?=some t→args[j]?=some v→Value.okWide Tryz.prog W .any base t v)
  (hW:DataW.Whole enc Tryz.prog Tryz.f7.params.toList Rows.heapAlikeSpec.vars false W args.toList ds gs before)
  (hsz:(DataW.weightsEach Tryz.prog (Tryz.f7.params.toList++(OpenSpec.ofChange Rows.heapAlikeSpec).bare.plain.varTypes Tryz.prog) (ds++gs)).all (·≤reachBytes)=true) (hL:laidMetH Tryz.prog Rows.heapAlikeRow.laid W) :
  Calls Tryz.prog 7 args W fun e W'=>∃ v,e=.returned v∧Rows.heapAlikeSpec.post enc Tryz.prog Tryz.f7 false true false false W args v W':=by
 have hW':=hW
 obtain⟨p,q,hA0,hV,rfl,hfz,hnd⟩:=hW
 have hA:DataW.TrodAll enc Tryz.prog W 0 (fun _=>true) true Tryz.f7.params.toList args.toList ds p:=hA0
 rw[Tryz.params7] at hA hval
 obtain⟨v0,vs0,d0,ds0,p0,q0,hargs,rfl,rfl,h0,r0⟩:=trodAll_cons hA
 obtain⟨v1,vs1,d1,ds1,p1,q1,rfl,rfl,rfl,h1,r1⟩:=trodAll_cons r0
 obtain⟨v2,vs2,d2,ds2,p2,q2,rfl,rfl,rfl,h2,r2⟩:=trodAll_cons r1
 obtain⟨v3,vs3,d3,ds3,p3,q3,rfl,rfl,rfl,h3,r3⟩:=trodAll_cons r2
 obtain⟨v4,vs4,d4,ds4,p4,q4,rfl,rfl,rfl,h4,r4⟩:=trodAll_cons r3
 obtain⟨v5,vs5,d5,ds5,p5,q5,rfl,rfl,rfl,h5,r5⟩:=trodAll_cons r4
 obtain⟨rfl,rfl,rfl⟩:=trodAll_nil r5
 obtain rfl:args=#[v0,v1,v2,v3,v4,v5]:=by cases args;simp_all
 obtain⟨rfl,rfl⟩:=trodVars_none hV
 obtain⟨x0,rfl,rfl,rfl,w0⟩:=open_int Tryz.underlying3 (hval 0 3 v0 rfl rfl) h0
 obtain⟨x1,rfl,rfl,rfl,w1⟩:=open_int Tryz.underlying3 (hval 1 3 v1 rfl rfl) h1
 obtain⟨x2,rfl,rfl,rfl,w2⟩:=open_int Tryz.underlying3 (hval 2 3 v2 rfl rfl) h2
 obtain⟨x3,rfl,rfl,rfl,w3⟩:=open_int Tryz.underlying3 (hval 3 3 v3 rfl rfl) h3
 obtain⟨pa4,pl4,pc4,rfl⟩:=okWide_slice Tryz.underlying58 (hval 4 58 v4 rfl rfl)
 obtain⟨fuel4,hh4⟩:=id h4
 obtain⟨a4,c4,x4,e4,hR4⟩:=read_acts hh4
 obtain⟨rfl,rfl,rfl⟩:=Value.slice.inj e4
 obtain⟨x5,rfl,rfl,rfl,w5⟩:=open_int Tryz.underlying3 (hval 5 3 v5 rfl rfl) h5
 obtain⟨E,hE⟩:=env_of_laid (W:=W) (hL.filter fun x=>laid8.any (·.1==x.1))
 have hT:Tabs W:=tabs_of_laid (hL.filter fun x=>x.1 == "math/bits.deBruijn64tab"||x.1 == "internal/strconv.uint64pow10")
 clear hA0
 refine (heapAlike_any x0 x1 x2 x3 pa4 pc4 x4 x5 W E hE hT hR4).mono fun e W' ⟨he,hg⟩=>?_
 subst he
 exact⟨_,rfl,law_post rfl rfl hW' (by simp[Rows.heapAlikeSpec]) (by decide +kernel) hg⟩
end Go.Proofs.YtelhoppfidibiaaGreatDoor.HeapAlike
namespace Go.Proofs.YtelhoppfidibiaaGreatDoor.HeapAlike
open Go.ChangeShapes Go.WideShapes Go.ChangeAt Go.RowKit
theorem laid_met (os:Os):laidMetH Tryz.prog Rows.heapAlikeRow.laid ((World.doorLaid Tryz.prog 200 os).forCall (fun _ _=>0) ⟨#[],#[.int .i64 0,.int .i64 0,.int .i64 0,.int .i64 0,.slice none 0 0,.int .i64 0],[]⟩).memory :=
 laidMetH_of_parts3 (fuel:=8) (laidMet_of_run' 8 (by kernel_rfl) (by kernel_rfl)) (by kernel_rfl) (by kernel_rfl)
theorem reads (os:Os) {H:Type} (enc:TypeId × Value→H):∃ places,DataW.whole enc Tryz.prog ((World.doorLaid Tryz.prog 200 os).forCall (fun _ _=>0) ⟨#[],#[.int .i64 0,.int .i64 0,.int .i64 0,.int .i64 0,.slice none 0 0,.int .i64 0],[]⟩).memory Tryz.f7.params.toList Rows.heapAlikeSpec.vars false #[.int .i64 0,.int .i64 0,.int .i64 0,.int .i64 0,.slice none 0 0,.int .i64 0].toList 8=some ([.lit (.int .i64 0),.lit (.int .i64 0),.lit (.int .i64 0),.lit (.int .i64 0),.nil,.lit (.int .i64 0)],[],places) :=
 ⟨[],by kernel_rfl⟩
theorem lifted (os:Os) (started:os.Started) (H:Type) (enc:TypeId × Value→H) (F:Stop.Interp) :
  ReturnsInHanded {} Tryz.checked os 7 .any ((OpenSpec.ofChange Rows.heapAlikeSpec).preRow enc Tryz.prog Tryz.f7 Rows.heapAlikeRow.domain false Rows.heapAlikeRow.laid) (((OpenSpec.ofChange Rows.heapAlikeSpec).at F).post enc Tryz.prog Tryz.f7 false true false false):=by
 obtain⟨places,hx⟩:=reads os enc
 refine returnsInHanded_of_row (C:=Tryz.checked) (s:=OpenSpec.ofChange Rows.heapAlikeSpec) own started (by kernel_rfl) Tryz.func7
  (witness_row_atRef (enc:=enc) (C:=Tryz.checked) false (World.doorLaid Tryz.prog 200 os) #[.int .i64 0,.int .i64 0,.int .i64 0,.int .i64 0,.slice none 0 0,.int .i64 0] rfl (by kernel_rfl) (by kernel_rfl) (by kernel_rfl)
   (OpenSpec.preRow_of_cond 8 hx (by kernel_rfl) (fun k hk=>by cases hk) (by kernel_rfl) (laid_met os))) ?_
 intro W base args ds gs before hval hW _ _ hsz hL _ _
 exact contract H enc W base args ds gs before hval hW hsz hL
end Go.Proofs.YtelhoppfidibiaaGreatDoor.HeapAlike
namespace Go.Proofs.YtelhoppfidibiaaGreatDoor.HeapAlike
open Go.ChangeShapes Go.WideShapes Go.ChangeAt Go.RowKit
theorem said:Rows.HeapAlikeSaid :=
 OpenClaim.holds_of_cond 7 Tryz.f7 rfl rfl rfl rfl rfl rfl rfl ⟨rfl,rfl,rfl,rfl,rfl⟩ rfl rfl rfl rfl rfl (by kernel_rfl) Tryz.func7 closed
  (of_decide_eq_true (by kernel_rfl)) (by unfold Func.isWrapper;first|(rw[if_pos (by decide +kernel)];kernel_rfl)|(rw[if_neg (by decide +kernel)];exact⟨rfl,rfl⟩))
  (fun os started H enc _ F=>by rw[OpenClaim.pre_eq_preRow];exact lifted os started H enc F)
theorem looks0:true=Tryz.pinned.checked.prog.looks []:=by kernel_rfl
theorem plain (f:FuncId) (fn:Func) (hf:Tryz.pinned.checked.prog.funcNamed "nurserypy/nurserypylaw3.HeapAlike"=some f) (hfn:Tryz.pinned.checked.prog.funcs[f]?=some fn) :
  true=Tryz.pinned.checked.prog.looks []∧∀ (j:Nat) t,fn.params[j]?=some t→Tryz.pinned.checked.prog.wantsStandIn t=false:=by
 obtain rfl:f=7:=Option.some.inj ((show Tryz.prog.funcNamed "nurserypy/nurserypylaw3.HeapAlike"=some 7 by kernel_rfl).symm.trans hf) |>.symm
 obtain rfl:fn=Tryz.f7:=(Option.some.inj (Tryz.func7.symm.trans hfn)).symm
 refine⟨looks0,fun j t ht=>?_⟩
 rw[Tryz.params7] at ht
 have hm:=Array.mem_of_getElem? ht
 simp only[List.mem_toArray,List.mem_cons,List.not_mem_nil,or_false] at hm
 rcases hm with rfl|rfl|rfl|rfl|rfl|rfl
 ·exact (show Tryz.prog.wantsStandIn 3=false by kernel_rfl)
 ·exact (show Tryz.prog.wantsStandIn 3=false by kernel_rfl)
 ·exact (show Tryz.prog.wantsStandIn 3=false by kernel_rfl)
 ·exact (show Tryz.prog.wantsStandIn 3=false by kernel_rfl)
 ·exact (show Tryz.prog.wantsStandIn 58=false by kernel_rfl)
 ·exact (show Tryz.prog.wantsStandIn 3=false by kernel_rfl)
theorem wfT:Rows.heapAlikeRow.wfByText (OpenSpec.ofChange Rows.heapAlikeSpec)=true:=by kernel_rfl
theorem goesB:false=Rows.heapAlikeRow.goesBy Tryz.pinned.checked.prog:=by kernel_rfl
theorem mainI:Tryz.pinned.checked.prog.mainIs=some (Rows.heapAlikeCard.stood.harness.1,Rows.heapAlikeCard.stood.harness.2.toList):=by kernel_rfl
theorem heapAlike_holds:Rows.HeapAlikeCardSaid :=
 Claim7.holds_tied_plain_at .later [] _ _ _ _ said (fun _ h=>by cases h) wfT (fun _ h=>by cases h) heapAlike_row_tie rfl ⟨rfl,rfl⟩ mainI rfl plain goesB
end Go.Proofs.YtelhoppfidibiaaGreatDoor.HeapAlike
