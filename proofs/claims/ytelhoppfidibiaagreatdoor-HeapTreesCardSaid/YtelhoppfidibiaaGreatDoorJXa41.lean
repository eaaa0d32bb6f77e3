/- The listed errors of laws on memories, as the walks want them. -/
import Derived.Test.YtelhoppfidibiaaGreatDoorJXa40
import Derived.Test.YtelhoppfidibiaaGreatDoorJXa39
set_option linter.unusedSimpArgs false
set_option linter.unusedVariables false
set_option maxRecDepth 100000
namespace Go.Proofs.YtelhoppfidibiaaGreatDoor
open Go.ChangeShapes Go.WideShapes Go.ChangeAt Go.RowKit
def C7r:List (String × DataW Unit):=[("nurserypy/api.ErrBound", Rows.laid_nurserypy_api_ErrBound),("nurserypy/api.ErrShape", Rows.laid_nurserypy_api_ErrShape),("nurserypy/api.ErrPlace", Rows.laid_nurserypy_api_ErrPlace),("nurserypy/api.ErrFull", Rows.laid_nurserypy_api_ErrFull)]
theorem E1f {W:World} (h:laidMetH Tryz.prog C7r W):∃ E,G4 E W:=by
 obtain⟨a1,_,c1,_⟩:=A6m (W:=W) (n := "nurserypy/api.ErrBound") (text:=_) gB gBt (h.filter fun x=>x.1 == "nurserypy/api.ErrBound");obtain⟨a2,_,c2,_⟩:=A6m (W:=W) (n := "nurserypy/api.ErrShape") (text:=_) gS gSt (h.filter fun x=>x.1 == "nurserypy/api.ErrShape");obtain⟨a4,_,c4,_⟩:=A6m (W:=W) (n := "nurserypy/api.ErrPlace") (text:=_) gP gPt (h.filter fun x=>x.1 == "nurserypy/api.ErrPlace");obtain⟨a5,_,c5,_⟩:=A6m (W:=W) (n := "nurserypy/api.ErrFull") (text:=_) gF gFt (h.filter fun x=>x.1 == "nurserypy/api.ErrFull");exact⟨fun i=>match i with|1=>a1|2=>a2|4=>a4|_=>a5,⟨c1,c2,c4⟩,c5⟩
end Go.Proofs.YtelhoppfidibiaaGreatDoor
namespace Go.Proofs.YtelhoppfidibiaaGreatDoor.HeapTrees
open Go.ChangeShapes Go.WideShapes Go.ChangeAt Go.RowKit
open Go.ChangeMaps (open_string)
theorem contract (H:Type) (enc:TypeId × Value→H) (W:World) (base:Nat) (args:Array Value) (ds gs:List (DataW H)) (before:List MemPlace)
  (hval:∀ (j:Nat) t v,Tryz.f6.params[j]?=some t→args[j]?=some v→Value.okWide Tryz.prog W .any base t v)
  (hW:DataW.Whole enc Tryz.prog Tryz.f6.params.toList Rows.heapTreesSpec.vars false W args.toList ds gs before)
  (hsz:(DataW.weightsEach Tryz.prog (Tryz.f6.params.toList++(OpenSpec.ofChange Rows.heapTreesSpec).bare.plain.varTypes Tryz.prog) (ds++gs)).all (·≤reachBytes)=true) (hL:laidMetH Tryz.prog Rows.heapTreesRow.laid W) :
  Calls Tryz.prog 6 args W fun e W'=>∃ v,e=.returned v∧Rows.heapTreesSpec.post enc Tryz.prog Tryz.f6 false true false false W args v W':=by
 have hW':=hW;obtain⟨p,q,hA0,hV,rfl,hfz,hnd⟩:=hW;have hA:DataW.TrodAll enc Tryz.prog W 0 (fun _=>true) true Tryz.f6.params.toList args.toList ds p:=hA0;rw[Tryz.params6] at hA hval;obtain⟨v0,vs0,d0,ds0,p0,q0,hargs,rfl,rfl,h0,r0⟩:=trodAll_cons hA;obtain⟨v1,vs1,d1,ds1,p1,q1,rfl,rfl,rfl,h1,r1⟩:=trodAll_cons r0;obtain⟨v2,vs2,d2,ds2,p2,q2,rfl,rfl,rfl,h2,r2⟩:=trodAll_cons r1;obtain⟨v3,vs3,d3,ds3,p3,q3,rfl,rfl,rfl,h3,r3⟩:=trodAll_cons r2;obtain⟨rfl,rfl,rfl⟩:=trodAll_nil r3;obtain rfl:args=#[v0,v1,v2,v3]:=by cases args;simp_all
 obtain⟨rfl,rfl⟩:=trodVars_none hV;obtain⟨x0,rfl,rfl,rfl,w0⟩:=open_int Tryz.underlying3 (hval 0 3 v0 rfl rfl) h0;obtain⟨x1,rfl,rfl,rfl,w1⟩:=open_int Tryz.underlying3 (hval 1 3 v1 rfl rfl) h1;obtain⟨x2,rfl,rfl,rfl,w2⟩:=open_int Tryz.underlying3 (hval 2 3 v2 rfl rfl) h2;obtain⟨x3,rfl,rfl,rfl,w3⟩:=open_int Tryz.underlying3 (hval 3 3 v3 rfl rfl) h3;obtain⟨E,hE⟩:=E1f (W:=W) (hL.filter fun x=>C7r.any (·.1==x.1));have hT:A3p W:=D2d (hL.filter fun x=>x.1 == "math/bits.deBruijn64tab"||x.1 == "internal/strconv.uint64pow10");clear hA0;refine (E2g x0 x1 x2 x3 W E hE hT ).mono fun e W' ⟨he,hg⟩=>?_
 subst he;exact⟨_,rfl,C7w rfl rfl hW' (by simp[Rows.heapTreesSpec]) (by decide +kernel) hg⟩
end Go.Proofs.YtelhoppfidibiaaGreatDoor.HeapTrees
namespace Go.Proofs.YtelhoppfidibiaaGreatDoor.HeapTrees
open Go.ChangeShapes Go.WideShapes Go.ChangeAt Go.RowKit
theorem C1c (os:Os):laidMetH Tryz.prog Rows.heapTreesRow.laid ((World.doorLaid Tryz.prog 200 os).forCall (fun _ _=>0) ⟨#[],#[.int .i64 0,.int .i64 0,.int .i64 0,.int .i64 0],[]⟩).memory :=
 laidMetH_of_parts3 (fuel:=8) (laidMet_of_run' 8 (by kernel_rfl) (by kernel_rfl)) (by kernel_rfl) (by kernel_rfl)
theorem C2k (os:Os) {H:Type} (enc:TypeId × Value→H):∃ places,DataW.whole enc Tryz.prog ((World.doorLaid Tryz.prog 200 os).forCall (fun _ _=>0) ⟨#[],#[.int .i64 0,.int .i64 0,.int .i64 0,.int .i64 0],[]⟩).memory Tryz.f6.params.toList Rows.heapTreesSpec.vars false #[.int .i64 0,.int .i64 0,.int .i64 0,.int .i64 0].toList 8=some ([.lit (.int .i64 0),.lit (.int .i64 0),.lit (.int .i64 0),.lit (.int .i64 0)],[],places) :=
 ⟨[],by kernel_rfl⟩
theorem lifted (os:Os) (started:os.Started) (H:Type) (enc:TypeId × Value→H) (F:Stop.Interp) :
  ReturnsInHanded {} Tryz.checked os 6 .any ((OpenSpec.ofChange Rows.heapTreesSpec).preRow enc Tryz.prog Tryz.f6 Rows.heapTreesRow.domain false Rows.heapTreesRow.laid) (((OpenSpec.ofChange Rows.heapTreesSpec).at F).post enc Tryz.prog Tryz.f6 false true false false):=by
 obtain⟨places,hx⟩:=C2k os enc;refine returnsInHanded_of_row (C:=Tryz.checked) (s:=OpenSpec.ofChange Rows.heapTreesSpec) own started (by kernel_rfl) Tryz.func6
  (witness_row_atRef (enc:=enc) (C:=Tryz.checked) false (World.doorLaid Tryz.prog 200 os) #[.int .i64 0,.int .i64 0,.int .i64 0,.int .i64 0] rfl (by kernel_rfl) (by kernel_rfl) (by kernel_rfl)
   (OpenSpec.preRow_of_cond 8 hx (by kernel_rfl) (fun k hk=>by cases hk) (by kernel_rfl) (C1c os))) ?_
 intro W base args ds gs before hval hW _ _ hsz hL _ _;exact contract H enc W base args ds gs before hval hW hsz hL
end Go.Proofs.YtelhoppfidibiaaGreatDoor.HeapTrees
namespace Go.Proofs.YtelhoppfidibiaaGreatDoor.HeapTrees
open Go.ChangeShapes Go.WideShapes Go.ChangeAt Go.RowKit
theorem C2o:Rows.HeapTreesSaid :=
 OpenClaim.holds_of_cond 6 Tryz.f6 rfl rfl rfl rfl rfl rfl rfl ⟨rfl,rfl,rfl,rfl,rfl⟩ rfl rfl rfl rfl rfl (by kernel_rfl) Tryz.func6 closed
  (of_decide_eq_true (by kernel_rfl)) (by unfold Func.isWrapper;first|(rw[if_pos (by decide +kernel)];kernel_rfl)|(rw[if_neg (by decide +kernel)];exact⟨rfl,rfl⟩))
  (fun os started H enc _ F=>by rw[OpenClaim.pre_eq_preRow];exact lifted os started H enc F)
theorem C1j:true=Tryz.pinned.checked.prog.looks []:=by kernel_rfl
theorem plain (f:FuncId) (fn:Func) (hf:Tryz.pinned.checked.prog.funcNamed "nurserypy/nurserypylaw3.HeapTrees"=some f) (hfn:Tryz.pinned.checked.prog.funcs[f]?=some fn) :
  true=Tryz.pinned.checked.prog.looks []∧∀ (j:Nat) t,fn.params[j]?=some t→Tryz.pinned.checked.prog.wantsStandIn t=false:=by
 obtain rfl:f=6:=Option.some.inj ((show Tryz.prog.funcNamed "nurserypy/nurserypylaw3.HeapTrees"=some 6 by kernel_rfl).symm.trans hf) |>.symm;obtain rfl:fn=Tryz.f6:=(Option.some.inj (Tryz.func6.symm.trans hfn)).symm;refine⟨C1j,fun j t ht=>?_⟩;rw[Tryz.params6] at ht;have hm:=Array.mem_of_getElem? ht;simp only[List.mem_toArray,List.mem_cons,List.not_mem_nil,or_false] at hm;rcases hm with rfl|rfl|rfl|rfl
 ·exact (show Tryz.prog.wantsStandIn 3=false by kernel_rfl)
 ·exact (show Tryz.prog.wantsStandIn 3=false by kernel_rfl)
 ·exact (show Tryz.prog.wantsStandIn 3=false by kernel_rfl)
 ·exact (show Tryz.prog.wantsStandIn 3=false by kernel_rfl)
theorem wfT:Rows.heapTreesRow.wfByText (OpenSpec.ofChange Rows.heapTreesSpec)=true:=by kernel_rfl
theorem C0l:false=Rows.heapTreesRow.goesBy Tryz.pinned.checked.prog:=by kernel_rfl
theorem C1k:Tryz.pinned.checked.prog.mainIs=some (Rows.heapTreesCard.stood.harness.1,Rows.heapTreesCard.stood.harness.2.toList):=by kernel_rfl
theorem heapTrees_holds:Rows.HeapTreesCardSaid :=
 Claim7.holds_tied_plain_at .later [] _ _ _ _ C2o (fun _ h=>by cases h) wfT (fun _ h=>by cases h) heapTrees_row_tie rfl ⟨rfl,rfl⟩ C1k rfl plain C0l
end Go.Proofs.YtelhoppfidibiaaGreatDoor.HeapTrees
