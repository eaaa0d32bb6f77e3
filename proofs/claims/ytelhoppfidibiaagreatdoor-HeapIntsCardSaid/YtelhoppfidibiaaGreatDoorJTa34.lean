/- The walk of mem.New. -/
import Derived.Test.YtelhoppfidibiaaGreatDoorJTa07
import Derived.Deep.RegionHeld3
import Derived.Laws.OwnMore
import Derived.IntWalk
import Derived.Test.YtelhoppfidibiaaGreatDoorJTa29
import Derived.Test.YtelhoppfidibiaaGreatDoorJTa33
import Derived.Deep.LoopGhost
import Derived.Test.YtelhoppfidibiaaGreatDoorJTa18
import Derived.Test.YtelhoppfidibiaaGreatDoorJTa28
import Derived.Test.YtelhoppfidibiaaGreatDoorJTa10
set_option linter.unusedSimpArgs false
set_option linter.unusedVariables false
set_option maxHeartbeats 4000000
set_option maxRecDepth 100000
namespace Go.Proofs.YtelhoppfidibiaaGreatDoor
open Go.RowKit
theorem n1_any (a hi:Int) (w:World):Calls Tryz.prog 83 #[.int .i64 a,.int .i64 hi] w fun e w'=>e=.returned (.bool (inR a 1 hi))∧w'=w:=by
 by_cases h:1≤a
 ·have e:inR a 1 hi=decide (a≤hi):=by simp[inR,h]
  rw[e]
  go_enter Tryz.func83,Tryz.ntmps83
  go_wp2
  go_ret
  exact⟨rfl,rfl⟩
 ·have e:inR a 1 hi=false:=by simp[inR,h]
  rw[e]
  go_enter Tryz.func83,Tryz.ntmps83
  go_wp2
  go_ret
  exact⟨rfl,rfl⟩
def newOK (half old card:Int):Bool:=inR half 1 65536&&inR old 1 65536&&inR card 1 1024
theorem new_no (half old card:Int) (h:newOK half old card=false) (w:World) (gb:Addr) (hG:GBound w gb) :
  Calls Tryz.prog 37 #[.int .i64 half,.int .i64 old,.int .i64 card] w fun e w'=>e=.returned (.tuple #[.pointer none,errV gb])∧Ext w w':=by
 have h3:inR half 1 65536=false∨(inR half 1 65536=true∧inR old 1 65536=false)∨(inR half 1 65536=true∧inR old 1 65536=true∧inR card 1 1024=false):=by
  revert h;unfold newOK;cases inR half 1 65536<;>cases inR old 1 65536<;>cases inR card 1 1024<;>simp
 clear h
 rcases h3 with h1|⟨h1,h2⟩|⟨h1,h2,h3⟩
 all_goals
  go_enter Tryz.func37,Tryz.ntmps37
  go_wp2_with (go_at_call 83;refine (n1_any _ _ _).mono ?_;rintro e w' ⟨rfl,rfl⟩)
  go_quiet (fail)
  go_wp2
  go_ret2
  exact⟨rfl,ext_drewN _ _⟩
def newM (half old card:Int):Mem:=⟨half,old,card,List.replicate (2*half+old).toNat 0,0,0,0,[],[],[],List.replicate ((old+card-1)/card).toNat false⟩
theorem infoU:(Tryz.prog.info? 78).map (fun i=>(i.zero,i.size,i.bytes))=some (some (.int .u64 0),1,8):=by kernel_rfl
theorem infoB:(Tryz.prog.info? 4).map (fun i=>(i.zero,i.size,i.bytes))=some (some (.bool false),1,1):=by kernel_rfl
theorem undUs:Tryz.prog.underlying 76=some (.slice 78):=by kernel_rfl
theorem undBs:Tryz.prog.underlying 64=some (.slice 4):=by kernel_rfl
def NewPost (w:World) (M:Mem) (e:Ending) (w':World):Prop :=
 ∃ b S,e=.returned (.tuple #[.pointer (some ⟨b,0,none⟩),.nilIface])∧OMem w' w.heap.size b 140 M S∧Ext w w'
theorem om_made {wb:World} (B:Nat) (half old card:Int) (t tI:TypeId) (n1 n2 gW gC:Nat) (hn1:n1=(2*half+old).toNat) (hn2:n2=((old+card-1)/card).toNat) (hB:B≤wb.heap.size) (hne:gW≠gC)
  (ho1:wb.ownsRow B 78 1 (.slice (some ⟨gW,0,none⟩) n1 n1) n1 (madeCells (Value.int .u64 0).cells (n1*1)).toList)
  (ho2:wb.ownsRow B 4 1 (.slice (some ⟨gC,0,none⟩) n2 n2) n2 (madeCells (Value.bool false).cells (n2*1)).toList) :
  OMem (wb.alloc (.cells #[.int .i64 half,.int .i64 old,.int .i64 card,.slice (some ⟨gW,0,none⟩) n1 n1,.int .i64 0,.int .i64 0,.int .i64 0,.slice none 0 0,.slice none 0 0,.slice none 0 0,.slice (some ⟨gC,0,none⟩) n2 n2] t)) B wb.heap.size tI (newM half old card)
   ⟨(some ⟨gW,0,none⟩,n1),(none,0),(none,0),(none,0),(some ⟨gC,0,none⟩,n2)⟩:=by
 have e1:(madeCells (Value.int .u64 0).cells (n1*1)).toList=wcells (newM half old card).W:=by
  rw[show (Value.int .u64 0).cells=#[Value.int .u64 0] from rfl,Nat.mul_one,toList_madeCells_one];simp[wcells,newM,hn1]
 have e2:(madeCells (Value.bool false).cells (n2*1)).toList=bcells (newM half old card).cards:=by
  rw[show (Value.bool false).cells=#[Value.bool false] from rfl,Nat.mul_one,toList_madeCells_one];simp[bcells,newM,hn2]
 have l1:(newM half old card).W.length=n1:=by simp[newM,hn1]
 have l2:(newM half old card).cards.length=n2:=by simp[newM,hn2]
 have lt1:gW<wb.heap.size:=(ho1.lt gW rfl).2
 have lt2:gC<wb.heap.size:=(ho2.lt gC rfl).2
 have hc:∀ j v,(#[Value.int .i64 half,.int .i64 old,.int .i64 card,.slice (some ⟨gW,0,none⟩) n1 n1,.int .i64 0,.int .i64 0,.int .i64 0,.slice none 0 0,.slice none 0 0,.slice none 0 0,.slice (some ⟨gC,0,none⟩) n2 n2]:Array Value)[j]?=some v→(wb.alloc (.cells #[.int .i64 half,.int .i64 old,.int .i64 card,.slice (some ⟨gW,0,none⟩) n1 n1,.int .i64 0,.int .i64 0,.int .i64 0,.slice none 0 0,.slice none 0 0,.slice none 0 0,.slice (some ⟨gC,0,none⟩) n2 n2] t)).cell? ⟨wb.heap.size,j,none⟩=some v:=fun j v hv=>by
  rw[cell_of_row _ wb.heap.size j _ t (0,0) (heap_alloc_new wb _)];exact hv
 have r1:=ho1.alloc (.cells #[.int .i64 half,.int .i64 old,.int .i64 card,.slice (some ⟨gW,0,none⟩) n1 n1,.int .i64 0,.int .i64 0,.int .i64 0,.slice none 0 0,.slice none 0 0,.slice none 0 0,.slice (some ⟨gC,0,none⟩) n2 n2] t)
 have r2:=ho2.alloc (.cells #[.int .i64 half,.int .i64 old,.int .i64 card,.slice (some ⟨gW,0,none⟩) n1 n1,.int .i64 0,.int .i64 0,.int .i64 0,.slice none 0 0,.slice none 0 0,.slice none 0 0,.slice (some ⟨gC,0,none⟩) n2 n2] t)
 rw[e1] at r1
 rw[e2] at r2
 refine⟨hB,⟨_,t,heap_alloc_new wb _⟩,fun p hp=>?_,fun f hf=>?_,?_,?_⟩
 ·simp only[memNums,List.mem_cons,List.not_mem_nil,or_false] at hp
  rcases hp with rfl|rfl|rfl|rfl|rfl|rfl<;>exact hc _ _ rfl
 ·simp only[memFlds,List.mem_cons,List.not_mem_nil,or_false] at hf
  rcases hf with rfl|rfl|rfl|rfl|rfl
  ·refine⟨?_,?_,?_⟩
   ·simp only[Fld.val,l1];exact hc _ _ rfl
   ·simp only[Fld.val,l1];exact r1
   ·simp[Fld.val,Value.ownBlock];omega
  ·exact⟨hc _ _ rfl,World.ownsRow_nil _ _ _ _,by simp[Fld.val,Value.ownBlock]⟩
  ·exact⟨hc _ _ rfl,World.ownsRow_nil _ _ _ _,by simp[Fld.val,Value.ownBlock]⟩
  ·exact⟨hc _ _ rfl,World.ownsRow_nil _ _ _ _,by simp[Fld.val,Value.ownBlock]⟩
  ·refine⟨?_,?_,?_⟩
   ·simp only[Fld.val,l2];exact hc _ _ rfl
   ·simp only[Fld.val,l2];exact r2
   ·simp[Fld.val,Value.ownBlock];omega
 ·simp[memFlds,Fld.val,Value.ownBlock];exact fun e=>hne e.symm
 ·simp[memFlds,memNums]
theorem new_yes (half old card:Int) (h:newOK half old card=true) (w:World) :
  Calls Tryz.prog 37 #[.int .i64 half,.int .i64 old,.int .i64 card] w (NewPost w (newM half old card)):=by
 simp only[newOK,Bool.and_eq_true] at h
 obtain⟨⟨h1,h2⟩,h3⟩:=h
 obtain⟨a1,a2⟩:=inR_true.1 h1
 obtain⟨a3,a4⟩:=inR_true.1 h2
 obtain⟨a5,a6⟩:=inR_true.1 h3
 obtain⟨i0,hi0,h0a,h0b,h0c⟩:=info_parts infoU
 obtain⟨i4,hi4,h4a,h4b,h4c⟩:=info_parts infoB
 have q0:0≤(old+card-1)/card:=Int.ediv_nonneg (by omega) (by omega)
 have q1:(old+card-1)/card≤old+card-1:=Int.ediv_le_self _ (by omega)
 obtain⟨n1,hn1⟩:∃ n:Nat,2*half+old=n:=⟨(2*half+old).toNat,by omega⟩
 obtain⟨n2,hn2⟩:∃ n:Nat,(old+card-1)/card=n:=⟨((old+card-1)/card).toNat,by omega⟩
 have e0:IntKind.i64.wrap (2*half)=2*half:=IntWalk.i64_in _ (by omega)
 have e1:IntKind.i64.wrap (2*half+old)=(n1:Int):=by rw[IntWalk.i64_in _ (by omega)];exact hn1
 have e2:IntKind.i64.wrap (old+card)=old+card:=IntWalk.i64_in _ (by omega)
 have e3:IntKind.i64.wrap (old+card-1)=old+card-1:=IntWalk.i64_in _ (by omega)
 have e4:(old+card-1).tdiv card=(n2:Int):=by rw[Int.tdiv_eq_ediv_of_nonneg (by omega)];exact hn2
 have e5:IntKind.i64.wrap (n2:Int)=(n2:Int):=IntWalk.i64_in _ (by omega)
 have e8:(card==0)=false:=by simp;omega
 have e9:¬card=0:=by omega
 have z1:n1=(2*half+old).toNat:=by omega
 have z2:n2=((old+card-1)/card).toNat:=by omega
 obtain⟨wa,hr1,ho1,hg1⟩:=run_make_full (P:=Tryz.prog) w.drew w.heap.size 76 78 i0 (.int .u64 0) 1 undUs hi0 h0a h0b .i64 .i64 n1 (by rw[h0c];omega) (by unfold maxLen;omega) (Nat.le_refl _)
 obtain⟨wb,hr2,ho2,hg2⟩:=run_make_full (P:=Tryz.prog) wa w.heap.size 64 4 i4 (.bool false) 1 undBs hi4 h4a h4b .i64 .i64 n2 (by rw[h4c];omega) (by unfold maxLen;omega) hg1.size
 obtain⟨va,hs1,hp1,hh1⟩:=run_make_full (P:=Tryz.prog) w.drew w.heap.size 64 4 i4 (.bool false) 1 undBs hi4 h4a h4b .i64 .i64 n2 (by rw[h4c];omega) (by unfold maxLen;omega) (Nat.le_refl _)
 obtain⟨vb,hs2,hp2,hh2⟩:=run_make_full (P:=Tryz.prog) va w.heap.size 76 78 i0 (.int .u64 0) 1 undUs hi0 h0a h0b .i64 .i64 n1 (by rw[h0c];omega) (by unfold maxLen;omega) hh1.size
 have lt1:w.heap.size<wa.heap.size:=(ho1.lt w.drew.heap.size rfl).2
 have lt2:w.heap.size<va.heap.size:=(hp1.lt w.drew.heap.size rfl).2
 have x1:Ext w wa:=Ext.trans_ (Ext.refl w).drew_ (Below.grown (Below.refl _ _) hg1 (Nat.le_refl _) (fun k hk=>by cases hk))
 have x2:Ext w wb:=Ext.trans_ x1 (Below.grown (Below.refl _ _) hg2 (Nat.le_refl _) (fun k hk=>by cases hk))
 have x3:Ext w va:=Ext.trans_ (Ext.refl w).drew_ (Below.grown (Below.refl _ _) hh1 (Nat.le_refl _) (fun k hk=>by cases hk))
 have x4:Ext w vb:=Ext.trans_ x3 (Below.grown (Below.refl _ _) hh2 (Nat.le_refl _) (fun k hk=>by cases hk))
 have HOM:=Lib.hid (om_made (wb:=wb) w.heap.size half old card 82 140 n1 n2 w.heap.size wa.heap.size z1 z2 x2.size (by omega) (ho1.kept hg2 (Or.inr (by simp[Value.ownBlock]))) ho2)
 have HOV:=Lib.hid (om_made (wb:=vb) w.heap.size half old card 82 140 n1 n2 va.heap.size w.heap.size z1 z2 x4.size (by omega) hp2 (hp1.kept hh2 (Or.inr (by simp[Value.ownBlock]))))
 have X2:=Lib.hid x2
 have X4:=Lib.hid x4
 clear ho1 hg1 ho2 hg2 x1 x2 x3 x4 hp1 hp2 hh1 hh2 hn1 hn2 z1 z2 q0 q1 lt1 lt2
 go_enter Tryz.func37,Tryz.ntmps37
 go_wp2_with (go_at_call 83;refine (n1_any _ _ _).mono ?_;rintro e w' ⟨rfl,rfl⟩)
 refine wp_region_held_drew (S:=fun _=>True) (by kernel_rfl) ?_ (fun hHeld=>?_)
 ·trivial
 refine tk 0 ⟨some 26,_,_,_,_,_⟩ ?_ rfl ?_ ?_
 rotate_left
 ·(intro w hSw;(try dsimp only at hSw);go_simp;try with_reducible rfl)
 try simp only[tkS]
 refine tk 1 ⟨some 27,_,_,_,_,_⟩ ?_ rfl ?_ ?_
 rotate_left
 ·(intro w hSw;(try dsimp only at hSw);go_simp;try with_reducible rfl)
 try simp only[tkS]
 refine tk 2 ⟨some 28,_,_,_,_,_⟩ ?_ rfl ?_ ?_
 rotate_left
 ·(intro w hSw;(try dsimp only at hSw);go_simp;try with_reducible rfl)
 try simp only[tkS]
 refine tk 3 ⟨some 29,_,_,_,_,_⟩ ?_ rfl ?_ ?_
 rotate_left
 ·(intro w hSw;(try dsimp only at hSw);go_simp;try with_reducible rfl)
 try simp only[tkS]
 refine tk 4 ⟨some 30,_,_,_,_,_⟩ ?_ rfl ?_ ?_
 rotate_left
 ·(intro w hSw;(try dsimp only at hSw);go_simp;try with_reducible rfl)
 try simp only[tkS]
 refine tk 5 ⟨some 31,_,_,_,_,_⟩ ?_ rfl ?_ ?_
 rotate_left
 ·(intro w hSw;(try dsimp only at hSw);go_simp;try with_reducible rfl)
 try simp only[tkS]
 refine tk 6 ⟨some 32,_,_,_,_,_⟩ ?_ rfl ?_ ?_
 rotate_left
 ·(intro w hSw;(try dsimp only at hSw);go_simp;try with_reducible rfl)
 try simp only[tkS]
 refine tk 8 ⟨some 34,_,_,_,_,_⟩ ?_ rfl ?_ ?_
 rotate_left
 ·(intro w hSw;(try dsimp only at hSw);go_simp;try with_reducible rfl)
 try simp only[tkS]
 refine tk 9 ⟨some 35,_,_,_,_,_⟩ ?_ rfl ?_ ?_
 rotate_left
 ·(intro w hSw;(try dsimp only at hSw);go_simp;try with_reducible rfl)
 try simp only[tkS]
 refine tk 10 ⟨some 36,_,_,_,_,_⟩ ?_ rfl ?_ ?_
 rotate_left
 ·(intro w hSw;(try dsimp only at hSw);go_simp;try with_reducible rfl)
 try simp only[tkS]
 refine tk 11 ⟨some 37,_,_,_,_,_⟩ ?_ rfl ?_ ?_
 rotate_left
 ·(intro w hSw;(try dsimp only at hSw);go_simp;try with_reducible rfl)
 try simp only[tkS]
 refine tk 12 ⟨some 38,_,_,_,_,_⟩ ?_ rfl ?_ ?_
 rotate_left
 ·(intro w hSw;(try dsimp only at hSw);go_simp;try with_reducible rfl)
 try simp only[tkS]
 refine tk 13 ⟨some 39,_,_,_,_,_⟩ ?_ rfl ?_ ?_
 rotate_left
 ·(intro w hSw;(try dsimp only at hSw);go_simp;try with_reducible rfl)
 try simp only[tkS]
 refine wpAnyH_ready (rs:=[7,14]) (by kernel_rfl) (by simp) ?_
 refine AllReadyH.cons (o:=⟨some 33,_,_,_,_,_⟩) rfl (fun K hK=>?_) (AllReadyH.cons (o:=⟨some 40,_,_,_,_,_⟩) rfl (fun K hK=>?_) AllReadyH.nil)
 ·skip
  go_simp
  refine hK.out _ _ ?_ (fun hHeld=>?_)
  ·(try dsimp only);all_goals trivial
  clear hK K
  try simp only[tkS]
  refine wpAnyH_ready (rs:=[14]) (by kernel_rfl) (by simp) ?_
  refine AllReadyH.cons (o:=⟨some 40,_,_,_,_,_⟩) rfl (fun K hK=>?_) AllReadyH.nil
  go_simp
  skip
  refine hK.out _ _ ?_ (fun hHeld=>?_)
  ·(try dsimp only);all_goals trivial
  clear hK K
  try simp only[tkS]
  refine tk 15 ⟨some 41,_,_,_,_,_⟩ ?_ rfl ?_ ?_
  rotate_left
  ·(intro w hSw;(try dsimp only at hSw);go_simp;try with_reducible rfl)
  try simp only[tkS]
  refine wpAnyH_ready (rs:=[16]) (by kernel_rfl) (by simp) ?_
  refine AllReadyH.cons (o:=⟨some 42,_,_,_,_,_⟩) rfl (fun K hK=>?_) AllReadyH.nil
  go_simp
  skip
  refine hK.out _ _ ?_ (fun hHeld=>?_)
  ·(try dsimp only);all_goals trivial
  clear hK K
  try simp only[tkS]
  refine tk 17 ⟨some 6,_,_,_,_,_⟩ ?_ rfl ?_ ?_
  rotate_left
  ·(intro w hSw;(try dsimp only at hSw);go_simp;try with_reducible rfl)
  try simp only[tkS]
  refine tk 18 ⟨some 7,_,_,_,_,_⟩ ?_ rfl ?_ ?_
  rotate_left
  ·(intro w hSw;(try dsimp only at hSw);go_simp;try with_reducible rfl)
  try simp only[tkS]
  refine wpAnyH_done (by kernel_rfl) ?_ _
  go_wp2
  go_ret2
  exact⟨wb.heap.size,_,rfl,HOM.out,Ext.alloc_ X2.out _⟩
 ·skip
  go_simp
  refine hK.out _ _ ?_ (fun hHeld=>?_)
  ·(try dsimp only);all_goals trivial
  clear hK K
  try simp only[tkS]
  refine wpAnyH_ready (rs:=[7]) (by kernel_rfl) (by simp) ?_
  refine AllReadyH.cons (o:=⟨some 33,_,_,_,_,_⟩) rfl (fun K hK=>?_) AllReadyH.nil
  go_simp
  skip
  refine hK.out _ _ ?_ (fun hHeld=>?_)
  ·(try dsimp only);all_goals trivial
  clear hK K
  try simp only[tkS]
  refine tk 15 ⟨some 41,_,_,_,_,_⟩ ?_ rfl ?_ ?_
  rotate_left
  ·(intro w hSw;(try dsimp only at hSw);go_simp;try with_reducible rfl)
  try simp only[tkS]
  refine wpAnyH_ready (rs:=[16]) (by kernel_rfl) (by simp) ?_
  refine AllReadyH.cons (o:=⟨some 42,_,_,_,_,_⟩) rfl (fun K hK=>?_) AllReadyH.nil
  go_simp
  skip
  refine hK.out _ _ ?_ (fun hHeld=>?_)
  ·(try dsimp only);all_goals trivial
  clear hK K
  try simp only[tkS]
  refine tk 17 ⟨some 6,_,_,_,_,_⟩ ?_ rfl ?_ ?_
  rotate_left
  ·(intro w hSw;(try dsimp only at hSw);go_simp;try with_reducible rfl)
  try simp only[tkS]
  refine tk 18 ⟨some 7,_,_,_,_,_⟩ ?_ rfl ?_ ?_
  rotate_left
  ·(intro w hSw;(try dsimp only at hSw);go_simp;try with_reducible rfl)
  try simp only[tkS]
  refine wpAnyH_done (by kernel_rfl) ?_ _
  go_wp2
  go_ret2
  exact⟨vb.heap.size,_,rfl,HOV.out,Ext.alloc_ X4.out _⟩
theorem mul1_any (n:Nat) (h:n≤1000000) (w:World):Calls Tryz.prog 84 #[.int .u64 1,.int .u64 (n:Int)] w fun e w'=>e=.returned (.tuple #[.int .u64 0,.int .u64 (n:Int)])∧w'=w:=by
 have:=mul_any 1 n (by omega) (by omega) w
 rw[show 1*n/18446744073709551616=0 by omega,show 1*n%18446744073709551616=n by omega] at this
 exact this
theorem run_head {P:Program} {t e:TypeId} (ht:P.underlying t=some (.slice e)) (hz:∀ w,(sizeOf e).run P w=.ok 1 w) (g len cap i:Nat) (hi:i≤cap) (w':World) :
  (Instr.slice t (.slice (some ⟨g,0,none⟩) len cap) none (some (.int .i64 (i:Int))) none).run P w'=.ok (.slice (some ⟨g,0,none⟩) i cap) w':=by
 have he:P.elem t=e:=by simp[Program.elem,ht]
 have ht':P.underlying t=some (.slice (P.elem t)):=by rw[he];exact ht
 rw[run_slice_h w' t (some ⟨g,0,none⟩) len cap ht' .i64 (i:Int) (by omega) (by omega),he,hz]
 simp[Result.andThen,sliced,Addr.add]
theorem wcells_rep (n:Nat) (v:Int):wcells (List.replicate n v)=List.replicate n (.int .u64 v):=by simp[wcells]
theorem splice_rep (n k m:Nat) (v z:Value) (h:k+m≤n):splice (List.replicate k v++List.replicate (n-k) z) k (List.replicate m v)=List.replicate (k+m) v++List.replicate (n-(k+m)) z:=by
 unfold splice
 rw[List.take_append,List.drop_append]
 simp only[List.take_replicate,List.drop_replicate,List.length_replicate,Nat.min_self]
 rw[show k-k=0 by omega,show k-(k+m)=0 by omega,show k+m-k=m by omega,Nat.zero_min]
 simp only[List.replicate_zero,List.append_nil,List.nil_append]
 rw[←List.append_assoc,List.replicate_append_replicate,show n-k-m=n-(k+m) by omega]
def rowR (n k:Nat) (v:Int):List Value:=List.replicate k (.int .u64 v)++List.replicate (n-k) (.int .u64 0)
theorem rowR_len (n k:Nat) (v:Int) (h:k≤n):(rowR n k v).length=n:=by unfold rowR;simp;omega
theorem rowR_at (n k:Nat) (v:Int) (j:Nat) (hj:j<k):(rowR n k v)[j]?=some (.int .u64 v):=by
 unfold rowR
 rw[List.getElem?_append_left (by simpa using hj)]
 simp[hj]
theorem run_dbl (wr:World) (G n k m:Nat) (v:Int) (A:Option Addr) (C:Nat) (hO:wr.ownsRow G 78 1 (.slice (some ⟨G,0,none⟩) n n) n (rowR n k v)) (hR:RSl wr (some ⟨G,0,none⟩) (rowR n k v)) (hA:A=some ⟨G,k,none⟩) (hm:m=min k (n-k)) (hk:1≤k) (hlt:k<n) :
  ∃ w',(Builtin.copy_ #[76,76] 3 #[.slice A (n-k) C,.slice (some ⟨G,0,none⟩) k n]).run Tryz.prog wr=.ok (goInt m) w'∧But G wr w'∧w'.ownsRow G 78 1 (.slice (some ⟨G,0,none⟩) n n) n (rowR n (k+m) v):=by
 obtain⟨g',hg',-,-,-,hc,cur,hh,hlen,htake⟩:=own_block hO (by omega)
 injection hg' with hg'
 injection hg' with hg'
 subst hg'
 simp only[Nat.mul_one] at hlen htake
 have hcs:(List.replicate m (Value.int .u64 v)).length=m:=by simp
 obtain⟨w',hr,hg2,hb⟩:=run_copy_but (P:=Tryz.prog) (w:=wr) 76 76 3 78 undU64 sizeF0 A (some ⟨G,0,none⟩) (n-k) C k n G k cur 78 hh (List.replicate m (Value.int .u64 v)) (by rw[hcs,hm])
  (fun _=>⟨hA,⟨G,0,none⟩,rfl,fun j u hu=>by
   have hj:j<m:=by
    rcases Nat.lt_or_ge j m with q|q
    ·exact q
    ·rw[List.getElem?_eq_none (by simpa using q)] at hu;cases hu
   rw[List.getElem?_replicate,if_pos hj] at hu
   injection hu with hu
   subst hu
   have:=hR.at_ (rowR_at n k v j (by omega))
   by_cases e:j=0
   ·subst e;simpa [Addr.add] using this
   ·simpa [Addr.add,e] using this⟩) (by rw[hcs];omega) (by intro u hu;rw[(List.mem_replicate.1 hu).2];rfl)
 rw[hcs] at hr
 refine⟨w',hr,hb,?_⟩
 have:=own_splice hO rfl hh k (List.replicate m (Value.int .u64 v)) (by rw[hcs];omega) hg2
 have e:splice (rowR n k v) k (List.replicate m (Value.int .u64 v))=rowR n (k+m) v:=splice_rep n k m (.int .u64 v) (.int .u64 0) (by omega)
 rw[e] at this
 exact this
theorem repeat1_walk (xb xo xc n:Nat) (v:Int) (w:World) (hc:w.cell? ⟨xb,xo,none⟩=some (.int .u64 v)) (hn:n≤5000) :
  Calls Tryz.prog 38 #[.slice (some ⟨xb,xo,none⟩) 1 xc,.int .i64 (n:Int)] w fun e w'=>e=.returned (.slice (some ⟨w.heap.size,0,none⟩) n n)∧w'.ownsRow w.heap.size 78 1 (.slice (some ⟨w.heap.size,0,none⟩) n n) n (wcells (List.replicate n v))∧Ext w w':=by
 obtain⟨i0,hi0,h0a,h0b,h0c⟩:=info_parts infoU
 obtain⟨w1,hr1,ho1,hg1⟩:=run_make_full (P:=Tryz.prog) w w.heap.size 76 78 i0 (.int .u64 0) 1 undUs hi0 h0a h0b .i64 .i64 n (by rw[h0c];omega) (by unfold maxLen;omega) (Nat.le_refl _)
 have hx1:Ext w w1:=Below.grown (Below.refl _ _) hg1 (Nat.le_refl _) (fun k hk=>by cases hk)
 have hlt:xb<w.heap.size:=cell_lt hc
 obtain⟨G,hG⟩:∃ G,G=w.heap.size:=⟨_,rfl⟩
 have e1:(madeCells (Value.int .u64 0).cells (n*1)).toList=rowR n 0 v:=by
  rw[show (Value.int .u64 0).cells=#[Value.int .u64 0] from rfl,Nat.mul_one,toList_madeCells_one];simp[rowR]
 rw[e1] at ho1
 rw[←hG] at hr1 ho1
 have hXL:xb≠G:=by omega
 have a1:IntKind.u64.wrap (n:Int)=(n:Int):=IntWalk.u64_in _ (by omega)
 have a2:IntKind.i64.wrap (n:Int)=(n:Int):=IntWalk.i64_in _ (by omega)
 have a3:¬((n:Int)<0):=by omega
 have a4:¬(9223372036854775807<(n:Int)):=by omega
 have hcx:w1.cell? ⟨xb,xo,none⟩=some (.int .u64 v):=hx1.cell_ hc
 obtain⟨w2,m0,hrun,ho2,hx2,hm1,hm2⟩:∃ (w2:World) (m0:Nat),(Builtin.copy_ #[76,76] 3 #[.slice (some ⟨G,0,none⟩) n n,.slice (some ⟨xb,xo,none⟩) 1 xc]).run Tryz.prog w1=.ok (goInt m0) w2∧w2.ownsRow G 78 1 (.slice (some ⟨G,0,none⟩) n n) n (rowR n m0 v)∧Ext w w2∧m0≤n∧(n=0∨1≤m0):=by
  obtain rfl|hn1:n=0∨1≤n:=by omega
  ·exact⟨w1,0,run_copy_none (P:=Tryz.prog) w1 76 76 3 78 (some ⟨G,0,none⟩) (some ⟨xb,xo,none⟩) 0 0 1 xc undU64 sizeF0 rfl,ho1,hx1,Nat.le_refl _,Or.inl rfl⟩
  ·obtain⟨w2,hrun,hb2,ho2⟩:=copy_over (P:=Tryz.prog) (W:=w1) 76 3 78 undU64 sizeF0 (B:=G) (a:=some ⟨G,0,none⟩) (c:=n) (xs:=rowR n 0 v) (by rw[rowR_len _ _ _ (Nat.zero_le _)];exact ho1) rfl (some ⟨G,0,none⟩) (some ⟨xb,xo,none⟩) n xc 0 n [.int .u64 v] rfl ⟨xb,xo,none⟩ rfl
    (fun k u hu=>by
     obtain rfl:k=0:=by
      rcases Nat.eq_zero_or_pos k with q|q
      ·exact q
      ·rw[List.getElem?_eq_none (by rw[List.length_singleton];omega)] at hu;cases hu
     simp at hu;subst hu;simpa [Addr.add] using hcx) (by intro u hu;rw[List.mem_singleton.1 hu];rfl) (by simp) (by simpa using hn1) (by rw[rowR_len _ _ _ (Nat.zero_le _)];simpa using hn1)
   rw[rowR_len _ _ _ (Nat.zero_le _)] at ho2
   have e2:splice (rowR n 0 v) 0 [.int .u64 v]=rowR n 1 v:=by
    have:=splice_rep n 0 1 (.int .u64 v) (.int .u64 0) (by omega)
    rw[Nat.zero_add] at this
    exact this
   rw[e2] at ho2
   exact⟨w2,1,hrun,ho2,hx1.trans ⟨hb2.os,hb2.tape,hb2.output,Nat.le_of_eq hb2.size.symm,fun k hk=>hb2.block k (by omega)⟩,hn1,Or.inr (Nat.le_refl _)⟩
 have HO:=Lib.hid ho2
 have HX:=Lib.hid hx2
 have HGE:=Lib.hid hG
 clear ho1 ho2 hx1 hg1 e1 hx2 hcx hc hG
 go_enter Tryz.func38,Tryz.ntmps38
 go_wp2_with (go_at_call 84;refine (mul1_any n (by omega) _).mono ?_;rintro e w9 ⟨rfl,hw9⟩;have hw9:=hw9.symm;subst hw9)
 clear hrun hr1
 go_loopw [8] (fun i wr=>∃ k:Nat,k≤n∧(n=0∨1≤k)∧i=.int .i64 (k:Int)∧Hid (wr.ownsRow G 78 1 (.slice (some ⟨G,0,none⟩) n n) n (rowR n k v))∧Hid (Ext w wr)) (fun i _=>n-(intOf i).toNat)
 case atStart=>exact⟨m0,hm1,hm2,rfl,HO.out,HX.out⟩
 case round =>
  obtain⟨k,hk,hk1,rfl,hO,hE⟩:=hrel
  by_cases hlt2:k<n
  ·have hltz:(k:Int)<(n:Int):=by omega
   have hk2:1≤k:=by omega
   obtain⟨m,hm⟩:∃ m,m=min k (n-k):=⟨_,rfl⟩
   obtain⟨A,C,hsl,hA⟩:=run_tail (P:=Tryz.prog) undU64 sizeU64 G n n k (k:Int) rfl (by omega) (Nat.le_refl _)
   have hsh:=run_head (P:=Tryz.prog) undU64 sizeU64 G n n k (by omega)
   have hRl:RSl wr (some ⟨G,0,none⟩) (rowR n k v):=(row_rsl hO.out).1
   obtain⟨w4,hrun4,hb4,ho4⟩:=run_dbl wr.drew G n k m v A C (own_le hO.out (Nat.le_refl _) ((Ext.refl _).drew_)) (hRl.ext ((Ext.refl _).drew_)) (hA (by omega)) hm hk2 (by omega)
   have HO4:=Lib.hid ho4
   have HX4:Hid (Ext w w4):=Below.trans (hE.out.drew_) ⟨hb4.os,hb4.tape,hb4.output,Nat.le_of_eq hb4.size.symm,fun j hj=>hb4.block j (by have:=HGE.out;omega)⟩
   have a5:IntKind.i64.wrap ((k:Int)+(m:Int))=((k+m:Nat):Int):=by rw[IntWalk.i64_in _ (by omega)];omega
   have hq1:k+m≤n:=by omega
   have hq2:1≤m:=by omega
   clear ho4 hb4 hRl hA hm
   go_wp2
   go_region
   go_roundw
   case rel=>exact⟨_,_,_,_,_,_,_,_,_,_,_,_,_,_,⟨k+m,hq1,by omega,by go_num,HO4.out,HX4.out⟩,rfl⟩
   case measure=>simp[intOf];omega
  ·obtain rfl:k=n:=by omega
   have hltz:¬(k:Int)<(k:Int):=by omega
   go_wp2
   go_ret
   refine⟨by rw[←HGE.out];rfl,?_,hE.out⟩
   have:=hO.out
   rw[←HGE.out]
   rw[wcells_rep]
   unfold rowR at this
   simpa using this
open Go.RowKit Go.Extern.Stop Go.Stop Go.Extern
theorem valueOfFF (t:Addr) (w:World):(ReflectliteValue.unpack (.iface 183 (.pointer (some t)))).run Tryz.prog w
  = .ok (.agg #[.pointer (some ⟨11,183,none⟩),.pointer (some ⟨w.heap.size,0,none⟩),.int .u64 150]) (w.alloc (.cells #[.pointer (some t)] 183)):=by kernel_rfl
theorem typeFF (a:Addr) (w:World):(ReflectliteValue.methodAny (ReflectliteValue.valueError "reflectlite.Value.Type" 0) (fun t _ _ _=>ReflectliteType.toType t) #[.agg #[.pointer (some ⟨11,183,none⟩),.pointer (some a),.int .u64 150]]).run Tryz.prog w
  = .ok (.iface 206 (.agg #[.pointer (some ⟨11,183,none⟩)])) w:=by kernel_rfl
theorem methodKind (h:Value) (w:World):(Go.method 391 206 (.agg #[h]) "Kind").run Tryz.prog w=.ok (199,h) w:=by kernel_rfl
theorem kindFF (w:World):((ReflectliteType.abiMethod fun t=>(fun a:Nat=>Value.int IntKind.u8 (a:Int)) <$> Rtype.kind t) #[.pointer (some ⟨11,183,none⟩)]).run Tryz.prog w=.ok (.int .u8 22) w:=by kernel_rfl
theorem kindF (w:World):((ReflectliteType.abiMethod fun t=>(fun a:Nat=>Value.int IntKind.u8 (a:Int)) <$> Rtype.kind t) #[.pointer (some ⟨11,181,none⟩)]).run Tryz.prog w=.ok (.int .u8 22) w:=by kernel_rfl
theorem rlm (z:Sem Value) (f:TypeId→Addr→Nat→Nat→Sem Value) (v:Value) :
  ReflectliteValue.method z f #[v]=(do match ←ReflectliteValue.parts v with|none=>z|some (t,a,fl)=>f t a fl (fl%32)):=rfl
theorem partsFF (a:Addr) (w:World):(ReflectliteValue.parts (.agg #[.pointer (some ⟨11,183,none⟩),.pointer (some a),.int .u64 150])).run Tryz.prog w=.ok (some (183,a,150)) w:=by kernel_rfl
theorem isNilFF (a p:Addr) (W:World) (ha:W.cell? a=some (.pointer (some p))) :
  (ReflectliteValue.method (ReflectliteValue.valueError "reflectlite.Value.IsNil" 0) ReflectliteValue.isNil #[.agg #[.pointer (some ⟨11,183,none⟩),.pointer (some a),.int .u64 150]]).run Tryz.prog W=.ok (.bool false) W:=by
 rw[rlm]
 simp only[Sem.run_bind,partsFF,Result.andThen]
 simp[ReflectliteValue.isNil,loadVar,isAgg,underlying,Tryz.underlying183,ha,Result.andThen]
theorem methodElem (h:Value) (w:World):(Go.method 391 206 (.agg #[h]) "Elem").run Tryz.prog w=.ok (208,.agg #[h]) w:=by kernel_rfl
theorem methodImplements (h:Value) (w:World):(Go.method 391 206 (.agg #[h]) "Implements").run Tryz.prog w=.ok (209,.agg #[h]) w:=by kernel_rfl
theorem methodAssignableTo (h:Value) (w:World):(Go.method 391 206 (.agg #[h]) "AssignableTo").run Tryz.prog w=.ok (206,.agg #[h]) w:=by kernel_rfl
theorem elemFF (w:World):(ReflectliteType.method ReflectliteType.elem #[.agg #[.pointer (some ⟨11,183,none⟩)]]).run Tryz.prog w=.ok (.iface 206 (.agg #[.pointer (some ⟨11,181,none⟩)])) w:=by kernel_rfl
theorem implementsF (w:World):(ReflectliteType.relation "Implements" ReflectliteType.implements_ #[.agg #[.pointer (some ⟨11,181,none⟩)],.iface 206 (.agg #[.pointer (some ⟨11,26,none⟩)])]).run Tryz.prog w=.ok (.bool true) w:=by kernel_rfl
theorem assignableE (w:World):(ReflectliteType.relation "AssignableTo" ReflectliteType.assignableTo #[.agg #[.pointer (some ⟨11,261,none⟩)],.iface 206 (.agg #[.pointer (some ⟨11,181,none⟩)])]).run Tryz.prog w=.ok (.bool false) w:=by kernel_rfl
theorem noAsE (v:Value) (xT:TypeId) (w:World):(Instr.typeAssert (.iface 261 v) xT 249 true).run Tryz.prog w=.ok (.tuple #[.nilIface,.bool false]) w:=run_typeAssert_lacksB Tryz.underlying249 (by kernel_rfl) (by kernel_rfl) v xT w
abbrev GEType (w:World):Prop:=w.cell? ⟨7,0,none⟩=some (.iface 206 (.agg #[.pointer (some ⟨11,26,none⟩)]))
theorem as_miss (a t:Addr) (w:World) (hg:GEType w) :
  Calls Tryz.prog 124 #[errV a,.iface 183 (.pointer (some t))] w fun ev w'=>ev=.returned (.bool false)∧Ext w w':=by
 have h6:=@run_callFunc_extern Tryz.prog 154 _ (fun args=>ReflectliteValue.unpack (args.getD 0 (.tuple #[]))) Tryz.func154 (by kernel_rfl) (by kernel_rfl) (by kernel_rfl) (by kernel_rfl)
 have h7:=@run_callFunc_extern Tryz.prog 155 _ (ReflectliteValue.methodAny (ReflectliteValue.valueError "reflectlite.Value.Type" 0) (fun t _ _ _=>ReflectliteType.toType t)) Tryz.func155 (by kernel_rfl) (by kernel_rfl) (by kernel_rfl) (by kernel_rfl)
 have h8:=@run_callFunc_extern Tryz.prog 156 _ (ReflectliteValue.method (ReflectliteValue.valueError "reflectlite.Value.IsNil" 0) ReflectliteValue.isNil) Tryz.func156 (by kernel_rfl) (by kernel_rfl) (by kernel_rfl) (by kernel_rfl)
 have h27:=@run_callFunc_extern Tryz.prog 199 _ (ReflectliteType.abiMethod fun t=>do pure (.int .u8 (←Rtype.kind t))) Tryz.func199 (by kernel_rfl) (by kernel_rfl) (by kernel_rfl) (by kernel_rfl)
 have h37:=@run_callFunc_extern Tryz.prog 208 _ (ReflectliteType.method ReflectliteType.elem) Tryz.func208 (by kernel_rfl) (by kernel_rfl) (by kernel_rfl) (by kernel_rfl)
 have h38:=@run_callFunc_extern Tryz.prog 209 _ (ReflectliteType.relation "Implements" ReflectliteType.implements_) Tryz.func209 (by kernel_rfl) (by kernel_rfl) (by kernel_rfl) (by kernel_rfl)
 have h10:=@run_callFunc_extern Tryz.prog 96 _ ReflectliteType.typeOf Tryz.func96 (by kernel_rfl) (by kernel_rfl) (by kernel_rfl) (by kernel_rfl)
 have h35:=@run_callFunc_extern Tryz.prog 206 _ (ReflectliteType.relation "AssignableTo" ReflectliteType.assignableTo) Tryz.func206 (by kernel_rfl) (by kernel_rfl) (by kernel_rfl) (by kernel_rfl)
 have tO:=isTypeOf
 have mA:=methodAssignableTo
 have aE:=assignableE
 have f6:=valueOfFF
 have f7:=typeFF
 have mK:=methodKind
 have mE:=methodElem
 have mI:=methodImplements
 have k27:=kindFF
 have k25:=kindF
 have e27:=elemFF
 have i25:=implementsF
 have nA:=noAsE
 have uE:=noUnwrapE
 have vE:=noUnwrapsE
 have n8:=isNilFF ⟨w.heap.size,0,none⟩ t ((w.alloc (.cells #[.pointer (some t)] 183)).alloc (.cells #[.pointer (some ⟨11,183,none⟩),.pointer (some ⟨w.heap.size,0,none⟩),.int .u64 150] 225)) (by simp)
 have hlt:=cell_lt hg
 simp only at hlt
 go_enter Tryz.func124,Tryz.ntmps124
 go_wp2
 refine wp_loop_rounds 1 ?_
 rw[rounds_succ]
 go_wp2
 go_ret
 refine⟨rfl,?_⟩
 repeat (first|exact Ext.refl _|refine Ext.alloc_ ?_ _)
structure ErrEnv (E:Nat→Addr) (w:World):Prop where
 text:w.cell? ⟨4,0,none⟩=some (errV (E 0))
 bound:w.cell? ⟨0,0,none⟩=some (errV (E 1))
 shape:w.cell? ⟨3,0,none⟩=some (errV (E 2))
 name:w.cell? ⟨5,0,none⟩=some (errV (E 3))
 place:w.cell? ⟨1,0,none⟩=some (errV (E 4))
 full:w.cell? ⟨2,0,none⟩=some (errV (E 5))
 nothing:w.cell? ⟨6,0,none⟩=some (errV (E 6))
 etype:GEType w
 blk:∀ i,i<7→∃ c t,w.heap[(E i).block]?=some (.cells c t (0,0))
 ne:∀ i j,i<7→j<7→i≠j→E i≠E j
theorem ErrEnv.g4 {E:Nat→Addr} {w:World} (h:ErrEnv E w):G4 E w:=⟨⟨h.bound,h.shape,h.place⟩,h.full⟩
theorem block_lt {w:World} {b:Nat} {o:Obj} (h:w.heap[b]?=some o):b<w.heap.size:=by
 rcases Nat.lt_or_ge b w.heap.size with g|g
 ·exact g
 ·simp[Array.getElem?_eq_none g] at h
theorem Ext.block_ {w w':World} (h:Ext w w') {b:Nat} {o:Obj} (hb:w.heap[b]?=some o):w'.heap[b]?=some o:=by
 rw[Below.block h b (block_lt hb)];exact hb
theorem ErrEnv.ext {E:Nat→Addr} {w w':World} (h:ErrEnv E w) (hx:Ext w w'):ErrEnv E w' :=
 ⟨hx.cell_ h.text,hx.cell_ h.bound,hx.cell_ h.shape,hx.cell_ h.name,hx.cell_ h.place,hx.cell_ h.full,hx.cell_ h.nothing,hx.cell_ h.etype,
  fun i hi=>let ⟨c,t,hc⟩:=h.blk i hi;⟨c,t,hx.block_ hc⟩,h.ne⟩
theorem code_nil (w:World):Calls Tryz.prog 72 #[.nilIface] w fun e w'=>e=.returned (.tuple #[.int .i64 0,.int .i64 (-1)])∧w'=w:=by
 go_enter Tryz.func72,Tryz.ntmps72
 go_wp2_with fail
 go_ret2
 exact⟨rfl,rfl⟩
theorem code_env {E:Nat→Addr} {w:World} (h:ErrEnv E w) (k:Nat) (hk:k<7) :
  Calls Tryz.prog 72 #[errV (E k)] w fun e w'=>e=.returned (.tuple #[.int .i64 (k+1),.int .i64 (-1)])∧Ext w w':=by
 have l0:=cell_lt h.text
 have l1:=cell_lt h.bound
 have l2:=cell_lt h.shape
 have l3:=cell_lt h.name
 have l4:=cell_lt h.place
 have l5:=cell_lt h.full
 have l6:=cell_lt h.nothing
 simp only at l0 l1 l2 l3 l4 l5 l6
 have H:=Lib.hid h
 clear h
 go_enter Tryz.func72,Tryz.ntmps72
 go_wp2_with (first
  | (go_at_call 124;refine (as_miss _ _ _ (((Ext.refl w).alloc_ _).cell_ H.out.etype)).mono ?_;rintro e w1 ⟨rfl,hb⟩;have h1:=H.out.ext (((Ext.refl w).alloc_ _).trans_ hb);have hz:w.heap.size<w1.heap.size:=(by have:=hb.size;simp only[World.size_alloc] at this;omega);have c0:=h1.text;have c1:=h1.bound;have c2:=h1.shape;have c3:=h1.name;have c4:=h1.place;have c5:=h1.full;have c6:=h1.nothing))
 have hx:Ext w (w1.alloc (.cells #[errV (E 0),errV (E 1),errV (E 2),errV (E 3),errV (E 4),errV (E 5),errV (E 6)] 26)):=(((Ext.refl w).alloc_ _).trans_ hb).alloc_ _
 have h2:=Lib.hid (h1.ext ((Ext.refl w1).alloc_ (.cells #[errV (E 0),errV (E 1),errV (E 2),errV (E 3),errV (E 4),errV (E 5),errV (E 6)] 26)))
 have hcell:∀ j,j<7→(w1.alloc (.cells #[errV (E 0),errV (E 1),errV (E 2),errV (E 3),errV (E 4),errV (E 5),errV (E 6)] 26)).cell? ⟨w1.heap.size,j,none⟩=some (errV (E j)):=by
  intro j hj
  rw[World.cell?_alloc_new]
  match j,hj with
  | 0,_=>rfl
  | 1,_=>rfl
  | 2,_=>rfl
  | 3,_=>rfl
  | 4,_=>rfl
  | 5,_=>rfl
  | 6,_=>rfl
 clear h1 hb hz c0 c1 c2 c3 c4 c5 c6 l0 l1 l2 l3 l4 l5 l6
 generalize w1.heap.size=nb at *
 generalize (w1.alloc (.cells #[errV (E 0),errV (E 1),errV (E 2),errV (E 3),errV (E 4),errV (E 5),errV (E 6)] 26))=W at *
 have HC:=Lib.hid hcell
 clear hcell
 go_loop [3,25] (fun c i=>∃ j:Nat,j≤k∧c=.int .i64 (-1)∧i=.int .i64 j) (fun _ i=>7-(intOf i).toNat)
 case atStart=>exact⟨0,Nat.zero_le _,rfl,rfl⟩
 case round =>
  obtain⟨j,hj,rfl,rfl⟩:=hrel
  have hc:=HC.out j (by omega)
  by_cases hjk:k=j
  ·subst hjk
   go_wp2_with (first
    | (go_at_call 45;refine (is_same _ _).mono ?_;rintro e w' ⟨rfl,rfl⟩))
   go_ret2
   exact⟨rfl,hx⟩
  ·have hd:j<k:=by omega
   obtain⟨ca,ta,ha⟩:=h2.out.blk k hk
   obtain⟨cb,tb,hb⟩:=h2.out.blk j (by omega)
   have hne:=h2.out.ne k j hk (by omega) hjk
   have Ha:=Lib.hid ha
   have Hb:=Lib.hid hb
   clear ha hb
   go_wp2_with (first
    | (go_at_call 45;refine (is_other _ _ _ _ _ _ _ hne Ha.out Hb.out).mono ?_;rintro e w' ⟨rfl,rfl⟩))
   go_round
   case rel=>exact⟨j+1,by omega,rfl,by go_num⟩
   case measure=>simp[intOf];omega
theorem coded_nil (c:Int) (w:World):Calls Tryz.prog 28 #[.nilIface,.int .i64 c] w fun e w'=>e=.returned (.bool (0==c))∧w'=w:=by
 rcases hc:(0==c) with _|_
 all_goals
  go_enter Tryz.func28,Tryz.ntmps28
  go_wp2_with (go_at_call 72;refine (code_nil _).mono ?_;rintro e w' ⟨rfl,rfl⟩)
  go_ret
  exact⟨rfl,rfl⟩
theorem coded_env {E:Nat→Addr} {w:World} (h:ErrEnv E w) (k:Nat) (hk:k<7) (c:Int) :
  Calls Tryz.prog 28 #[errV (E k),.int .i64 c] w fun e w'=>e=.returned (.bool ((k+1:Int)==c))∧Ext w w':=by
 have H:=Lib.hid h
 clear h
 rcases hc:((k+1:Int)==c) with _|_
 all_goals
  go_enter Tryz.func28,Tryz.ntmps28
  go_wp2_with (go_at_call 72;refine (code_env H.out k hk).mono ?_;rintro e w' ⟨rfl,hb⟩)
  go_ret
  exact⟨rfl,hb⟩
theorem newM_ok (half old card:Int) (h:newOK half old card=true):(newM half old card).Ok:=by
 simp only[newOK,Bool.and_eq_true] at h
 obtain⟨⟨h1,h2⟩,h3⟩:=h
 obtain⟨a1,a2⟩:=inR_true.1 h1
 obtain⟨a3,a4⟩:=inR_true.1 h2
 obtain⟨a5,a6⟩:=inR_true.1 h3
 have q0:0≤(old+card-1)/card:=Int.ediv_nonneg (by omega) (by omega)
 have q1:(old+card-1)/card≤old+card-1:=Int.ediv_le_self _ (by omega)
 refine⟨by simp only[newM];omega,by simp only[newM];omega,by simp only[newM];omega,by simp[newM],by simp[newM],by simp[newM],?_,by simp[newM],by simp[newM],by simp[newM],?_,by simp[newM],by simp[newM],by simp[newM],?_⟩
 ·intro x hx;simp only[newM] at hx;have:=(List.mem_replicate.1 hx).2;omega
 ·simp only[newM,List.length_replicate];omega
 ·simp only[newM,List.length_replicate];omega
end Go.Proofs.YtelhoppfidibiaaGreatDoor
