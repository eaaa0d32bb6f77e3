/- The walk of mem's Reach. -/
import Derived.Test.YtelhoppfidibiaaGreatDoorJTa20
import Derived.Test.YtelhoppfidibiaaGreatDoorJTa22
import Derived.Test.YtelhoppfidibiaaGreatDoorJTa17
import Derived.Deep.CutRange
import Derived.Deep.RegionHeld3
import Derived.Deep.LoopGhost
import Derived.Deep.Cut
set_option linter.unusedSimpArgs false
set_option linter.unusedVariables false
set_option maxHeartbeats 16000000
set_option maxRecDepth 100000
namespace Go.Proofs.YtelhoppfidibiaaGreatDoor
open Go.RowKit
theorem comeL_ats {M:Mem} (hg:goodB M=true) {out:List Ob} {u:Int} (hf:fldB (startsM M) u=true):comeL (ats out) u=ats (comeP M.W out u):=by
 unfold comeL comeP
 by_cases hk:kindW u≠0∨u=0
 ·rw[if_pos hk,if_neg]
  rintro⟨h,-⟩
  unfold ptsW at h
  rw[if_neg (fun r=>by rcases hk with q|q;exact q r.1;exact r.2.1 q)] at h
  omega
 ·rw[if_neg hk]
  have hk1:kindW u=0:=by omega
  have hk2:u≠0:=by omega
  have hp:pointedB u=true:=by
   unfold kindW at hk1
   unfold pointedB
   simp[hk1,hk2]
  have hpt:=pointed_pts hg hf hp
  have ep:ptsW u=placeW u:=by
   unfold ptsW at hpt ⊢
   split at hpt
   ·rename_i hc;rw[if_pos hc]
   ·omega
  rw[ep] at hpt ⊢
  by_cases hi:inSt (ats out) (placeW u)=true
  ·rw[if_pos hi,if_neg (fun h=>by rw[hi] at h;cases h.2)]
  ·rw[if_neg hi,if_pos ⟨hpt,by simpa using hi⟩]
   unfold ats
   rw[List.map_append]
   congr 1
   show [placeW u]=[((obW M.W (placeW u).toNat).a:Int)]
   show [placeW u]=[(((placeW u).toNat:Nat):Int)]
   rw[Int.toNat_of_nonneg hpt]
theorem ats_len (l:List Ob):(ats l).length=l.length:=by simp[ats]
theorem FromV.open_ {w:World} {B fb:Nat} {l:List Int} {v:Value} (h:FromV w B fb l v):∃ ta tc,v=.slice ta l.length tc∧RSl w ta (tcells l):=by
 obtain⟨a,n,c,rfl⟩:=h.row.slice
 obtain⟨e,hr⟩:=h.row.read
 have:n=l.length:=by rw[e];simp[tcells]
 subst this
 exact⟨a,c,rfl,hr⟩
theorem tcells_at (l:List Int) (k:Nat) (hk:k<l.length):(tcells l)[k]?=some (.int .i64 l[k]):=by simp[tcells,hk]
theorem reach_start (w:World) (t1 t2:TypeId):NumV (((w.alloc (.cells #[.slice none 0 0] t1)).alloc (.cells #[.map (some (w.heap.size+1+1))] t2)).alloc (.map #[] 0)) w.heap.size w.heap.size (w.heap.size+1) (w.heap.size+1+1) [] (.slice none 0 0)∧Ext w (((w.alloc (.cells #[.slice none 0 0] t1)).alloc (.cells #[.map (some (w.heap.size+1+1))] t2)).alloc (.map #[] 0)):=by
 have b0:(w.alloc (.cells #[.slice none 0 0] t1)).heap[w.heap.size]?=some (.cells #[.slice none 0 0] t1 (0,0)):=heap_alloc_new w _
 have b1:((w.alloc (.cells #[.slice none 0 0] t1)).alloc (.cells #[.map (some (w.heap.size+1+1))] t2)).heap[w.heap.size+1]?=some (.cells #[.map (some (w.heap.size+1+1))] t2 (0,0)):=by
  have:=heap_alloc_new (w.alloc (.cells #[.slice none 0 0] t1)) (.cells #[.map (some (w.heap.size+1+1))] t2)
  simpa using this
 have x0:Ext (w.alloc (.cells #[.slice none 0 0] t1)) (((w.alloc (.cells #[.slice none 0 0] t1)).alloc (.cells #[.map (some (w.heap.size+1+1))] t2)).alloc (.map #[] 0)):=((Ext.refl _).alloc_ _).alloc_ _
 have x1:Ext ((w.alloc (.cells #[.slice none 0 0] t1)).alloc (.cells #[.map (some (w.heap.size+1+1))] t2)) (((w.alloc (.cells #[.slice none 0 0] t1)).alloc (.cells #[.map (some (w.heap.size+1+1))] t2)).alloc (.map #[] 0)):=(Ext.refl _).alloc_ _
 have c0:((((w.alloc (.cells #[.slice none 0 0] t1)).alloc (.cells #[.map (some (w.heap.size+1+1))] t2)).alloc (.map #[] 0))).heap[w.heap.size]?=some (.cells #[.slice none 0 0] t1 (0,0)):=by rw[Below.block x0 _ (by simp)];exact b0
 have c1:((((w.alloc (.cells #[.slice none 0 0] t1)).alloc (.cells #[.map (some (w.heap.size+1+1))] t2)).alloc (.map #[] 0))).heap[w.heap.size+1]?=some (.cells #[.map (some (w.heap.size+1+1))] t2 (0,0)):=by rw[Below.block x1 _ (by simp)];exact b1
 refine⟨⟨⟨Nat.le_refl _,⟨_,_,c0⟩,?_,Tail.nil _ _ _,by simp[Value.ownBlock]⟩,by omega,⟨_,_,c1⟩,?_,by omega,?_,by omega,by omega,by omega,by simp[Value.ownBlock],by simp[Value.ownBlock]⟩,?_⟩
 ·rw[cell_of_row _ _ 0 _ _ _ c0];rfl
 ·rw[cell_of_row _ _ 0 _ _ _ c1];rfl
 ·have:=MapI.made ((w.alloc (.cells #[.slice none 0 0] t1)).alloc (.cells #[.map (some (w.heap.size+1+1))] t2)) .i64
  have e:((w.alloc (.cells #[.slice none 0 0] t1)).alloc (.cells #[.map (some (w.heap.size+1+1))] t2)).heap.size=w.heap.size+1+1:=by simp
  rw[e] at this
  exact this
 ·exact (((Ext.refl w).alloc_ _).alloc_ _).alloc_ _
def ReachPostM (w:World) (M:Mem) (e:Ending) (w':World):Prop :=
 ∃ a c mb,e=.returned (.tuple #[.slice a (reachP M).length c,.map (some mb)])∧Tail w' w.heap.size 3 (.slice a (reachP M).length c) (tcells (ats (reachP M)))∧MapI w' mb .i64 (mvE (numE (ats (reachP M))))∧w.heap.size≤mb∧(Value.slice a (reachP M).length c).ownBlock≠some mb∧Ext w w'
theorem mReach_walk (b o:Nat) (M:Mem) (S:Sls) (w:World) (hM:RMem w b o M S) (hg:goodB M=true) :
  Calls Tryz.prog 53 #[.pointer (some ⟨b,o,none⟩)] w (ReachPostM w M):=by
 obtain⟨hs,hob,hro,hwk,hfo,hid⟩:=good_parts hg
 have hlM:=len_small hs
 have hlo:=objs_len hs
 have hRB:Hid (∀ k,k<M.roots.length→(0≤M.roots.getD k 0∧M.roots.getD k 0≤18446744073709551615)∧fldB (startsM M) (M.roots.getD k 0)=true):=fun k hk=>⟨getD_in (P:=fun x=>0≤x∧x≤18446744073709551615) hM.ok.roots hk,fieldsB_at hro hk⟩
 have hlt0:=hM.lt
 have hRl:=hM.ok.lenR
 have HM:=Lib.hid hM
 have HG:=Lib.hid hg
 have HS:=Lib.hid hs
 have HFO:=Lib.hid hfo
 have HLO:Hid ((objsAll M).length≤1000000):=by unfold Hid;omega
 have hmm:=@run_makeMap Tryz.prog
 clear hM hg hs hob hro hwk hfo hid hlo
 go_enter Tryz.func53,Tryz.ntmps53
 go_upto_region 3 with fail
 refine named_world' (fun W1 hW1=>?_)
 obtain⟨hN1,hE1⟩:=reach_start w 22 103
 rw[←hW1] at hN1 hE1
 have HN1:=Lib.hid hN1
 have HE1:=Lib.hid hE1
 clear hW1 hN1 hE1
 generalize hfb:w.heap.size=fb at *
 have HFB:=Lib.hid hfb
 have c7:=(HM.out.ext HE1.out).roots
 clear hfb
 go_wp2
 clear c7
 generalize hRA:S.R.1=RA
 have HRA:=Lib.hid hRA
 clear hRA
 go_loopg [19] (M.roots.length) (fun r i wr=>∃ (k:Nat) (v:Value),k+r=M.roots.length∧i=.int .i64 (k:Int)∧Hid (NumV wr fb fb (fb+1) (fb+1+1) (ats (comesP M.W [] (M.roots.take k))) v)∧Hid (Gath M (comesP M.W [] (M.roots.take k)))∧Hid (Ext w wr))
 case atStart=>exact⟨0,_,by omega,rfl,HN1.out,Gath.nil M,HE1.out⟩
 case round =>
  clear HN1 HE1
  obtain⟨k,v,hk,rfl,hN,hG,hE⟩:=hrel
  have hMr:RMem wr b o M S:=HM.out.ext hE.out
  cases gk with
  | succ r =>
   have hlt:k<M.roots.length:=by omega
   have hltz:(k:Int)<(M.roots.length:Int):=by omega
   obtain⟨rb,ro,hRa,hc⟩:=hMr.rR k _ (wcells_at M.roots k hlt)
   have hgd:M.roots[k]=M.roots.getD k 0:=by rw[List.getD_eq_getElem?_getD,List.getElem?_eq_getElem hlt];rfl
   have hc':wr.cell? ⟨rb,ro+k,none⟩=some (.int .u64 (M.roots.getD k 0)):=hc
   have hRe:RA=some ⟨rb,ro,none⟩:=HRA.out.symm.trans hRa
   subst hRe
   obtain⟨⟨hu2,hu3⟩,hu1⟩:=hRB.out k hlt
   have hsn:comesP M.W [] (M.roots.take (k+1))=comeP M.W (comesP M.W [] (M.roots.take k)) (M.roots.getD k 0):=by
    unfold comesP
    rw[List.take_add_one,List.getElem?_eq_getElem hlt,List.foldl_append,hgd];rfl
   generalize M.roots.getD k 0=u at *
   generalize comesP M.W [] (M.roots.take k)=out at *
   have HSN:=Lib.hid hsn
   have HU1:=Lib.hid hu1
   have HK:=Lib.hid hk
   have hgl:=hG.out.len
   have HLL:Hid (out.length≤1000000):=by have:=HLO.out;unfold Hid;omega
   clear hsn hu1 hgd hlt hk hMr hc hRa hgl
   go_wp2_with (go_at_call 112;refine (come1_any u hu2 hu3 fb fb (fb+1) (fb+1+1) (ats out) v _ hN.out (by rw[ats_len];exact HLL.out)).mono ?_;rintro e w2 ⟨rfl,v2,hN2,hK2,hv2⟩;rw[comeL_ats HG.out HU1.out,←HSN.out] at hN2;have HN2:=Lib.hid hN2;have HK2:=Lib.hid hK2;clear hN2 hK2 hv2)
   go_roundg r
   case measure=>omega
   case rel=>exact⟨k+1,v2,by have:=HK.out;omega,by go_num,HN2.out,by unfold Hid;rw[HSN.out];exact hG.out.come HU1.out,Ext.keep hE.out HK2.out fun i hi=>by have:=(hN.out.own hi).1;rw[HFB.out];exact this⟩
  | zero =>
   obtain rfl:k=M.roots.length:=by omega
   have hltz:¬((M.roots.length:Nat):Int)<(M.roots.length:Int):=by omega
   rw[List.take_length] at hN hG
   clear hMr hk
   go_wp2
   go_loopg [7] (M.W.length) (fun r i wr=>∃ (k:Nat) (v:Value) (out:List Ob),k+r=M.W.length∧i=.int .i64 (k:Int)∧Hid (NumV wr fb fb (fb+1) (fb+1+1) (ats out) v)∧Hid (Gath M out)∧Hid (reachG M.W r k out=reachP M)∧Hid (Ext w wr))
   case atStart=>exact⟨0,v,_,by omega,rfl,hN.out,hG.out,rfl,hE.out⟩
   case round =>
    clear hN hG hE
    obtain⟨k,v,out,hk,rfl,hN,hG,hR,hE⟩:=hrel
    obtain⟨ta,tc,rfl,hRt⟩:=hN.out.fr.open_
    have hcO:=hN.out.fr.cell
    rw[ats_len] at hcO
    have hlen:=words_len HG.out hG.out
    by_cases hlt:k<out.length
    ·obtain⟨r,rfl⟩:∃ r,gk=r+1:=⟨gk-1,by omega⟩
     have hltz:(k:Int)<(out.length:Int):=by omega
     have hk6:k≤1000000:=by omega
     have hmem:=hG.out.mem _ (List.getElem_mem hlt)
     have hat:(ats out)[k]'(by rw[ats_len];exact hlt)=(out[k].a:Int):=by simp[ats]
     obtain⟨tb,tp,rfl,hc0⟩:=hRt _ _ (tcells_at (ats out) k (by rw[ats_len];exact hlt))
     rw[hat] at hc0
     have hR2:reachG M.W r (k+1) (stepP M.W out out[k])=reachP M:=by
      have:=hR.out
      rw[reachG,List.getElem?_eq_getElem hlt] at this
      exact this
     have hget:out[k]?=some out[k]:=List.getElem?_eq_getElem hlt
     obtain⟨m1,m2,m3⟩:=mem_in HS.out hmem
     have hsz:=found_n HM.out.ok HS.out hmem
     have hfl:=fun hr=>fun j hj=>fld_ok (M:=M) HFO.out hmem hr j hj
     generalize out[k]=x at *
     have hxw:=wat_in HM.out.ok x.a
     rw[←m2] at hxw
     have hMr:RMem wr b o M S:=HM.out.ext hE.out
     have c3:=hMr.W
     have hil:x.a<M.W.length:=by omega
     have hilz:(x.a:Int)<(M.W.length:Int):=by omega
     obtain⟨wb,wo,hWa,hcW⟩:=hMr.rW x.a _ (wcells_at M.W x.a hil)
     have hcW':wr.cell? ⟨wb,wo+x.a,none⟩=some (.int .u64 x.w):=by rw[hcW,m2];simp[wat,List.getD_eq_getElem?_getD,hil]
     rw[hWa] at c3
     have hbl:=hMr.lt
     have HWA:=Lib.hid hWa
     have HK:=Lib.hid hk
     have HFL:=Lib.hid hfl
     have HR2:=Lib.hid hR2
     have HGET:=Lib.hid hget
     have HMEM:=Lib.hid hmem
     have HM2:=Lib.hid m2
     have HM3:=Lib.hid m3
     have HXW:=Lib.hid hxw
     have HSZ:=Lib.hid hsz
     have HM1:=Lib.hid m1
     clear hR hRt hat hmem hget hfl m2 m3 hR2 hk hcW hWa hMr hxw hsz hlt m1 hil hlen
     have l1:=cell_lt hcO
     have l2:=cell_lt hc0
     have l3:=cell_lt hcW'
     simp only at l1 l2 l3
     go_upto_region 11 with fail
     go_cut [8,9] from 27 to 77 (fun p q wx=>∃ H:Nat,p=.pointer (some ⟨H,0,none⟩)∧q=.nilIface∧wx.cell? ⟨H,0,none⟩=some (.int .i64 (hKind x.w))∧wx.cell? ⟨H,3,none⟩=some (.int .i64 (hSize x.w))∧Hid (Ext wr wx))
     case first =>
      refine wp_region_held_drew (S:=fun W=>W.cell? ⟨b,o+3,none⟩=some (.slice (some ⟨wb,wo,none⟩) M.W.length S.W.2)∧W.cell? ⟨fb,0,none⟩=some (.slice (some ⟨tb,tp,none⟩) out.length tc)∧W.cell? ⟨tb,tp+k,none⟩=some (.int .i64 (x.a:Int))∧W.cell? ⟨wb,wo+x.a,none⟩=some (.int .u64 x.w)) (by kernel_rfl) ?_ (fun hHeld=>?_)
      ·exact⟨c3,hcO,hc0,hcW'⟩
      refine tk 0 ⟨some 34,_,_,_,_,_⟩ ?_ rfl ?_ ?_
      rotate_left
      ·(intro w hSw;(try dsimp only at hSw);go_simp;try with_reducible rfl)
      try simp only[tkS]
      refine tk 1 ⟨some 35,_,_,_,_,_⟩ ?_ rfl ?_ ?_
      rotate_left
      ·(intro w hSw;(try dsimp only at hSw);go_simp;try with_reducible rfl)
      try simp only[tkS]
      refine tk 2 ⟨some 36,_,_,_,_,_⟩ ?_ rfl ?_ ?_
      rotate_left
      ·(intro w hSw;(try dsimp only at hSw);go_simp;try with_reducible rfl)
      try simp only[tkS]
      refine tk 3 ⟨some 37,_,_,_,_,_⟩ ?_ rfl ?_ ?_
      rotate_left
      ·(intro w hSw;(try dsimp only at hSw);go_simp;try with_reducible rfl)
      try simp only[tkS]
      refine tk 4 ⟨some 38,_,_,_,_,_⟩ ?_ rfl ?_ ?_
      rotate_left
      ·(intro w hSw;(try dsimp only at hSw);go_simp;try with_reducible rfl)
      try simp only[tkS]
      refine tk 5 ⟨some 39,_,_,_,_,_⟩ ?_ rfl ?_ ?_
      rotate_left
      ·(intro w hSw;(try dsimp only at hSw);go_simp;try with_reducible rfl)
      try simp only[tkS]
      refine tk 6 ⟨some 40,_,_,_,_,_⟩ ?_ rfl ?_ ?_
      rotate_left
      ·(intro w hSw;(try dsimp only at hSw);go_simp;try with_reducible rfl)
      try simp only[tkS]
      refine tk 7 ⟨some 41,_,_,_,_,_⟩ ?_ rfl ?_ ?_
      rotate_left
      ·(intro w hSw;(try dsimp only at hSw);go_simp;try with_reducible rfl)
      try simp only[tkS]
      refine tk 8 ⟨some 42,_,_,_,_,_⟩ ?_ rfl ?_ ?_
      rotate_left
      ·(intro w hSw;(try dsimp only at hSw);go_simp;try with_reducible rfl)
      try simp only[tkS]
      refine tk 9 ⟨some 43,_,_,_,_,_⟩ ?_ rfl ?_ ?_
      rotate_left
      ·(intro w hSw;(try dsimp only at hSw);go_simp;try with_reducible rfl)
      try simp only[tkS]
      refine wpAnyH_ready (rs:=[10,14]) (by kernel_rfl) (by simp) ?_
      refine AllReadyH.cons (o:=⟨some 44,_,_,_,_,_⟩) rfl (fun K hK=>?_) (AllReadyH.cons (o:=⟨some 8,_,_,_,_,_⟩) rfl (fun K hK=>?_) AllReadyH.nil)
      ·skip
       go_simp
       refine (toHead_yes x.w HXW.out.1 HXW.out.2 HM3.out _).mono ?_
       rintro e w2 ⟨rfl,hq⟩
       have q1:=hq.cell_ hHeld.1
       have q2:=hq.cell_ hHeld.2.1
       have q3:=hq.cell_ hHeld.2.2.1
       have q4:=hq.cell_ hHeld.2.2.2
       have HX2:=Lib.hid hq
       clear hq
       refine hK.out _ _ ?_ (fun hHeld=>?_)
       ·(try dsimp only);exact⟨q1,q2,q3,q4⟩
       clear hK K
       try simp only[tkS]
       refine tk 11 ⟨some 33,_,_,_,_,_⟩ ?_ rfl ?_ ?_
       rotate_left
       ·(intro w hSw;(try dsimp only at hSw);go_simp;try with_reducible rfl)
       try simp only[tkS]
       refine tk 12 ⟨some 45,_,_,_,_,_⟩ ?_ rfl ?_ ?_
       rotate_left
       ·(intro w hSw;(try dsimp only at hSw);go_simp;try with_reducible rfl)
       try simp only[tkS]
       refine tk 13 ⟨some 46,_,_,_,_,_⟩ ?_ rfl ?_ ?_
       rotate_left
       ·(intro w hSw;(try dsimp only at hSw);go_simp;try with_reducible rfl)
       try simp only[tkS]
       refine wpAnyH_ready (rs:=[14]) (by kernel_rfl) (by simp) ?_
       refine AllReadyH.cons (o:=⟨some 8,_,_,_,_,_⟩) rfl (fun K hK=>?_) AllReadyH.nil
       go_simp
       skip
       refine hK.out _ _ ?_ (fun hHeld=>?_)
       ·(try dsimp only);exact⟨Ext.cell_ (w:=w2) (by repeat (first|exact Ext.refl _|(refine Ext.drew_ ?_)|(refine Ext.alloc_ ?_ _))) q1,Ext.cell_ (w:=w2) (by repeat (first|exact Ext.refl _|(refine Ext.drew_ ?_)|(refine Ext.alloc_ ?_ _))) q2,Ext.cell_ (w:=w2) (by repeat (first|exact Ext.refl _|(refine Ext.drew_ ?_)|(refine Ext.alloc_ ?_ _))) q3,Ext.cell_ (w:=w2) (by repeat (first|exact Ext.refl _|(refine Ext.drew_ ?_)|(refine Ext.alloc_ ?_ _))) q4⟩
       clear hK K
       try simp only[tkS]
       refine wpAnyH_ready (rs:=[15]) (by kernel_rfl) (by simp) ?_
       refine AllReadyH.cons (o:=⟨none,_,_,_,_,_⟩) rfl (fun K hK=>?_) AllReadyH.nil
       go_simp
       skip
       refine hK.out _ _ ?_ (fun hHeld=>?_)
       ·(try dsimp only);exact⟨Ext.cell_ (w:=w2) (by repeat (first|exact Ext.refl _|(refine Ext.drew_ ?_)|(refine Ext.alloc_ ?_ _))) q1,Ext.cell_ (w:=w2) (by repeat (first|exact Ext.refl _|(refine Ext.drew_ ?_)|(refine Ext.alloc_ ?_ _))) q2,Ext.cell_ (w:=w2) (by repeat (first|exact Ext.refl _|(refine Ext.drew_ ?_)|(refine Ext.alloc_ ?_ _))) q3,Ext.cell_ (w:=w2) (by repeat (first|exact Ext.refl _|(refine Ext.drew_ ?_)|(refine Ext.alloc_ ?_ _))) q4⟩
       clear hK K
       try simp only[tkS]
       refine tk 16 ⟨some 9,_,_,_,_,_⟩ ?_ rfl ?_ ?_
       rotate_left
       ·(intro w hSw;(try dsimp only at hSw);go_simp;try with_reducible rfl)
       try simp only[tkS]
       refine wpAnyH_done (by kernel_rfl) ?_ _
       go_wp2_with fail
       go_meet
       case rel=>exact⟨w2.heap.size,rfl,rfl,by simp[go_sem],by simp[go_sem],((Ext.refl wr).drew_.trans_ HX2.out).alloc_ _⟩
      ·skip
       go_simp
       refine hK.out _ _ ?_ (fun hHeld=>?_)
       ·(try dsimp only);exact⟨Ext.cell_ (w:=wr) (by repeat (first|exact Ext.refl _|(refine Ext.drew_ ?_)|(refine Ext.alloc_ ?_ _))) c3,Ext.cell_ (w:=wr) (by repeat (first|exact Ext.refl _|(refine Ext.drew_ ?_)|(refine Ext.alloc_ ?_ _))) hcO,Ext.cell_ (w:=wr) (by repeat (first|exact Ext.refl _|(refine Ext.drew_ ?_)|(refine Ext.alloc_ ?_ _))) hc0,Ext.cell_ (w:=wr) (by repeat (first|exact Ext.refl _|(refine Ext.drew_ ?_)|(refine Ext.alloc_ ?_ _))) hcW'⟩
       clear hK K
       try simp only[tkS]
       refine wpAnyH_ready (rs:=[10]) (by kernel_rfl) (by simp) ?_
       refine AllReadyH.cons (o:=⟨some 44,_,_,_,_,_⟩) rfl (fun K hK=>?_) AllReadyH.nil
       go_simp
       refine (toHead_yes x.w HXW.out.1 HXW.out.2 HM3.out _).mono ?_
       rintro e w2 ⟨rfl,hq⟩
       have q1:=hq.cell_ hHeld.1
       have q2:=hq.cell_ hHeld.2.1
       have q3:=hq.cell_ hHeld.2.2.1
       have q4:=hq.cell_ hHeld.2.2.2
       have z0:=hq.cell_ (p:=⟨wr.heap.size,0,none⟩) (v:=.int .i64 0) (by simp[go_sem])
       have z1:=hq.cell_ (p:=⟨wr.heap.size,1,none⟩) (v:=.int .i64 0) (by simp[go_sem])
       have z2:=hq.cell_ (p:=⟨wr.heap.size,2,none⟩) (v:=.int .i64 0) (by simp[go_sem])
       have z3:=hq.cell_ (p:=⟨wr.heap.size,3,none⟩) (v:=.int .i64 0) (by simp[go_sem])
       have zf:∀ j,w2.frozen? ⟨wr.heap.size,j,none⟩=false:=fun j=>by rw[hq.three.2.1 _ _ (by simp)];simp[go_sem]
       have zf0:=zf 0
       have zf1:=zf 1
       have zf2:=zf 2
       have zf3:=zf 3
       have HX2:=Lib.hid hq
       clear zf
       clear hq
       refine hK.out _ _ ?_ (fun hHeld=>?_)
       ·(try dsimp only);exact⟨q1,q2,q3,q4⟩
       clear hK K
       try simp only[tkS]
       refine tk 11 ⟨some 33,_,_,_,_,_⟩ ?_ rfl ?_ ?_
       rotate_left
       ·(intro w hSw;(try dsimp only at hSw);go_simp;try with_reducible rfl)
       try simp only[tkS]
       refine tk 12 ⟨some 45,_,_,_,_,_⟩ ?_ rfl ?_ ?_
       rotate_left
       ·(intro w hSw;(try dsimp only at hSw);go_simp;try with_reducible rfl)
       try simp only[tkS]
       refine tk 13 ⟨some 46,_,_,_,_,_⟩ ?_ rfl ?_ ?_
       rotate_left
       ·(intro w hSw;(try dsimp only at hSw);go_simp;try with_reducible rfl)
       try simp only[tkS]
       refine wpAnyH_ready (rs:=[15]) (by kernel_rfl) (by simp) ?_
       refine AllReadyH.cons (o:=⟨none,_,_,_,_,_⟩) rfl (fun K hK=>?_) AllReadyH.nil
       go_simp
       skip
       refine hK.out _ _ ?_ (fun hHeld=>?_)
       ·(try dsimp only);exact⟨by (iterate 4 rw[World.cell?_setCell_far _ _ _ _ (by simp;omega)]);exact q1,by (iterate 4 rw[World.cell?_setCell_far _ _ _ _ (by simp;omega)]);exact q2,by (iterate 4 rw[World.cell?_setCell_far _ _ _ _ (by simp;omega)]);exact q3,by (iterate 4 rw[World.cell?_setCell_far _ _ _ _ (by simp;omega)]);exact q4⟩
       clear hK K
       try simp only[tkS]
       refine tk 16 ⟨some 9,_,_,_,_,_⟩ ?_ rfl ?_ ?_
       rotate_left
       ·(intro w hSw;(try dsimp only at hSw);go_simp;try with_reducible rfl)
       try simp only[tkS]
       refine wpAnyH_done (by kernel_rfl) ?_ _
       go_wp2_with fail
       go_meet
       case rel =>
        refine⟨wr.heap.size,rfl,rfl,by simp[go_sem,z0],by simp[go_sem,z3],?_⟩
        refine Ext.set_ (Ext.set_ (Ext.set_ (Ext.set_ (Ext.trans_ ?_ HX2.out) ?_ _) ?_ _) ?_ _) ?_ _
        ·repeat (first|exact Ext.refl _|(refine Ext.drew_ ?_)|(refine Ext.alloc_ ?_ _))
        all_goals simp
     case rest =>
      obtain⟨H,rfl,rfl,g0,g3,hX⟩:=hcut
      have hEc:=hE.out.trans_ hX.out
      have hHlt:=cell_lt g0
      simp only at hHlt
      have hN2:=hN.out.ext hX.out
      have HN2:=Lib.hid hN2
      have HEC:=Lib.hid hEc
      have HG2:=hG
      have hcO2:=hX.out.cell_ hcO
      have hc02:=hX.out.cell_ hc0
      clear hN hE hcO hc0 hcW' c3 hN2 hEc hG l1 l2 l3 hbl
      cases hr:rawB (hKind x.w) with
      | true =>
       have hR2:reachG M.W r (k+1) out=reachP M:=by
        have:=HR2.out
        unfold stepP at this
        rw[if_pos hr] at this
        exact this
       have HR3:=Lib.hid hR2
       have HR:=Lib.hid hr
       clear hR2 hr
       go_wp2_with (go_at_call 89;refine (raw_any _ _).mono ?_;rintro e w' ⟨he,hw9⟩;rw[HR.out] at he;subst he;have hw9:=hw9.symm;subst hw9)
       go_roundg r
       case measure=>omega
       case rel=>exact⟨k+1,_,out,by have:=HK.out;omega,by go_num,HN2.out,HG2.out,HR3.out,HEC.out⟩
      | false =>
       have HR:=Lib.hid hr
       clear hr
       go_upto_region 13 with (go_at_call 89;refine (raw_any _ _).mono ?_;rintro e w' ⟨he,hw9⟩;rw[HR.out] at he;subst he;have hw9:=hw9.symm;subst hw9)
       have hMc:=HM.out.ext HEC.out
       have c3:=hMc.W
       rw[HWA.out] at c3
       have hcap:=hMc.capW
       have hbl:=hMc.lt
       have hsz:=HSZ.out
       have hm1:=HM1.out
       obtain⟨A,C,hsl,hAC,hAn,hRA⟩:=run_part (P:=Tryz.prog) undU64 sizeU64 wb wo M.W.length S.W.2 (x.a+1) (x.a+1+x.n) ((x.a:Int)+1) ((x.a:Int)+1+hSize x.w) (by omega) (by omega) (by omega) (by omega)
       have HRA2:Hid (∀ wr,RMem wr b o M S→RSl wr A (wcells (flds M x))):=fun wr hr=>by
        have:=hRA wr _ (HWA.out ▸ hr.rW)
        rw[flds_cells M x (by omega)] at this
        exact this
       rw[show x.a+1+x.n-(x.a+1)=x.n by omega] at hsl hAC
       clear hRA
       have e1:IntKind.i64.wrap ((x.a:Int)+1)=(x.a:Int)+1:=IntWalk.i64_in _ (by omega)
       have e2:IntKind.i64.wrap ((x.a:Int)+1+hSize x.w)=(x.a:Int)+1+hSize x.w:=IntWalk.i64_in _ (by omega)
       have hh1:(x.a:Int)+1+hSize x.w≤(S.W.2:Int):=by omega
       have hh2:(0:Int)≤(x.a:Int)+1:=by omega
       have hh3:(x.a:Int)+1≤(x.a:Int)+1+hSize x.w:=by omega
       have hxn:x.n≤1000000:=by omega
       clear hMc hcap hm1
       go_region
       go_wp2
       have HXN:=Lib.hid hxn
       have HSZ2:=Lib.hid hsz
       go_loopg [70] (x.n) (fun r i wr2=>∃ (j:Nat) (v2:Value) (out2:List Ob),j+r=x.n∧i=.int .i64 (j:Int)∧Hid (NumV wr2 fb fb (fb+1) (fb+1+1) (ats out2) v2)∧Hid (Gath M out2)∧Hid (out2=comesP M.W out ((flds M x).take j))∧Hid (Ext w wr2))
       case atStart=>exact⟨0,_,out,by omega,rfl,NumV.ext HN2.out (by repeat (first|exact Ext.refl _|(refine Ext.drew_ ?_)|(refine Ext.drewN_ ?_ _))),HG2.out,rfl,Ext.trans_ HEC.out (by repeat (first|exact Ext.refl _|(refine Ext.drew_ ?_)|(refine Ext.drewN_ ?_ _)))⟩
       case round =>
        obtain⟨j,v2,out2,hj,rfl,hN,hG,hV,hE⟩:=hrel
        cases gk with
        | succ r2 =>
         have hlt:j<x.n:=by omega
         have hltz2:(j:Int)<(x.n:Int):=by omega
         obtain⟨ab,ao,hA,hcell⟩:=HRA2.out _ (HM.out.ext hE.out) j _ (wcells_at (flds M x) j (by rw[flds_len];exact hlt))
         rw[flds_at M x j hlt] at hcell
         subst hA
         have hu:=wat_in HM.out.ok (x.a+1+j)
         have hfl:=HFL.out HR.out j hlt
         have hsn:=comesP_snoc M.W out (flds M x) j (by rw[flds_len];exact hlt)
         rw[←hV.out,flds_at M x j hlt] at hsn
         generalize wat M.W (x.a+1+j)=u at *
         have HU1:=Lib.hid hu
         have HFU:=Lib.hid hfl
         have HSN:=Lib.hid hsn
         have HJ:=Lib.hid hj
         have hgl:=hG.out.len
         have HLL:Hid (out2.length≤1000000):=by have:=HLO.out;unfold Hid;omega
         clear hu hfl hsn hj hlt hgl
         go_wp2_with (go_at_call 112;refine (come1_any u HU1.out.1 HU1.out.2 fb fb (fb+1) (fb+1+1) (ats out2) v2 _ hN.out (by rw[ats_len];exact HLL.out)).mono ?_;rintro e w3 ⟨rfl,v3,hN3,hK3,hv3⟩;rw[comeL_ats HG.out HFU.out] at hN3;have HN3:=Lib.hid hN3;have HK3:=Lib.hid hK3;clear hN3 hK3 hv3)
         go_roundg r2
         case measure=>omega
         case rel=>exact⟨j+1,v3,_,by have:=HJ.out;omega,by go_num,HN3.out,hG.out.come HFU.out,HSN.out.symm,Ext.keep hE.out HK3.out fun i hi=>by have:=(hN.out.own hi).1;rw[HFB.out];exact this⟩
        | zero =>
         obtain rfl:j=x.n:=by omega
         have hltz2:¬((x.n:Nat):Int)<(x.n:Int):=by omega
         have hV2:out2=stepP M.W out x:=by
          have:=hV.out
          unfold stepP
          rw[if_neg (by rw[HR.out];simp),this,List.take_of_length_le (by rw[flds_len];exact Nat.le_refl _)];rfl
         have HV2:=Lib.hid hV2
         clear hV hV2 hj
         go_wp2
         go_roundg r
         case measure=>omega
         case rel=>exact⟨k+1,v2,out2,by have:=HK.out;omega,by go_num,hN.out,hG.out,by rw[HV2.out];exact HR2.out,hE.out⟩
    ·have hltz:¬(k:Int)<(out.length:Int):=by omega
     have hEnd:reachG M.W gk k out=out:=reachG_end M.W gk k out (by omega)
     have hres:out=reachP M:=by rw[←hR.out,hEnd]
     have HRES:=Lib.hid hres
     have hf0:=hN.out.fr.frozen 0
     have hn0:=hN.out.ncell
     have hf1:wr.frozen? ⟨fb+1,0,none⟩=false:=by
      obtain⟨cur,t,hc⟩:=hN.out.nblk
      simp[World.frozen?,hc]
     have hl1:=hN.out.nlt
     have hl0:=hN.out.fr.lt
     clear hEnd hres hR hk
     go_wp2
     go_region
     go_wp2
     refine named_body (fun W5 hW5=>?_)
     have hblk:∀ g,(Value.slice ta out.length tc).ownBlock=some g→W5.heap[g]?=wr.heap[g]?:=fun g hg=>by
      rw[hW5]
      have h1:g≠fb:=fun e=>hN.out.fr.no (by rw[ats_len,hg,e])
      have h2:g≠fb+1:=fun e=>hN.out.vn (by rw[ats_len,hg,e])
      show ((wr.setCell _ _).setCell _ _).heap[g]?=_
      rw[heap_setCell_other _ _ _ _ h2,heap_setCell_other _ _ _ _ h1]
     have hT:Tail W5 fb 3 (.slice ta out.length tc) (tcells (ats out)):=Tail.kept (by have:=hN.out.fr.row;rw[ats_len] at this;exact this) hblk
     have hMp:MapI W5 (fb+1+1) .i64 (mvE (numE (ats out))):=by rw[hW5];exact (hN.out.map.setCell _ _).setCell _ _
     have hX5:Ext w W5:=by
      rw[hW5]
      have h0:=HFB.out
      refine Ext.drew_ (Ext.set_ (Ext.set_ hE.out ?_ _) ?_ _)<;>simp only<;>omega
     have k0:W5.cell? ⟨fb,0,none⟩=some (.slice ta out.length tc):=by rw[hW5];simp[go_sem,hcO]
     have k1:W5.cell? ⟨fb+1,0,none⟩=some (.map (some (fb+1+1))):=by rw[hW5];simp[go_sem,hn0]
     have hvm:(Value.slice ta out.length tc).ownBlock≠some (fb+1+1):=by have:=hN.out.vm;rw[ats_len] at this;exact this
     clear hW5 hblk
     rw[HRES.out] at hT hMp k0 hvm
     refine bodyPost_ret (v:=.tuple #[.slice ta (reachP M).length tc,.map (some (fb+1+1))]) (by simp[results,Tryz.results53,go_sem,k0,k1]) rfl ?_
     exact⟨ta,tc,fb+1+1,rfl,by rw[HFB.out];exact hT,hMp,by have:=HFB.out;omega,hvm,hX5⟩
end Go.Proofs.YtelhoppfidibiaaGreatDoor
