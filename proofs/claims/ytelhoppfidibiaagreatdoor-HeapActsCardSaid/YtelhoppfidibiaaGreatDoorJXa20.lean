/- The walk of mem's Reach. -/
import Derived.Test.YtelhoppfidibiaaGreatDoorJXa19
import Derived.Deep.CutRange
set_option linter.unusedSimpArgs false
set_option linter.unusedVariables false
set_option maxHeartbeats 16000000
set_option maxRecDepth 100000
namespace Go.Proofs.YtelhoppfidibiaaGreatDoor
open Go.RowKit
open List renaming getD_eq_getElem?_getD→Za,getElem?_eq_getElem→Zb
open World renaming cell?_setCell_far→Zc
theorem C4m {M:A7} (hg:goodB M=true) {out:List Ob} {u:Int} (hf:D0 (C6 M) u=true):B6a (G9 out) u=G9 (T5 M.W out u):=by
 unfold B6a T5;by_cases hk:C7 u≠0∨u=0
 ·rw[if_pos hk,if_neg];rintro⟨h,-⟩;unfold B6 at h;rw[if_neg (fun r=>by rcases hk with q|q;exact q r.1;exact r.2.1 q)] at h;omega
 ·rw[if_neg hk];have hk1:C7 u=0:=by omega
  have hk2:u≠0:=by omega
  have hp:A1j u=true:=by
   unfold C7 at hk1;unfold A1j;simp[hk1,hk2]
  have hpt:=C2e hg hf hp;have ep:B6 u=C9 u:=by
   unfold B6 at hpt ⊢
   split at hpt
   ·rename_i hc;rw[if_pos hc]
   ·omega
  rw[ep] at hpt ⊢;by_cases hi:F8 (G9 out) (C9 u)=true
  ·rw[if_pos hi,if_neg (fun h=>by rw[hi] at h;cases h.2)]
  ·rw[if_neg hi,if_pos ⟨hpt,by simpa using hi⟩];unfold G9;rw[List.map_append];congr 1;show [C9 u]=[((D4 M.W (C9 u).toNat).a:Int)];show [C9 u]=[(((C9 u).toNat:Nat):Int)];rw[Int.toNat_of_nonneg hpt]
theorem A4o (l:List Ob):(G9 l).length=l.length:=by simp[G9]
theorem A0l.open_ {w:World} {B fb:Nat} {l:List Int} {v:Value} (h:A0l w B fb l v):∃ ta tc,v=.slice ta l.length tc∧F7 w ta (K6 l):=by
 obtain⟨a,n,c,rfl⟩:=h.row.slice;obtain⟨e,hr⟩:=h.row.read;have:n=l.length:=by rw[e];simp[K6]
 subst this;exact⟨a,c,rfl,hr⟩
theorem B5b (l:List Int) (k:Nat) (hk:k<l.length):(K6 l)[k]?=some (.int .i64 l[k]):=by simp[K6,hk]
theorem F0n (w:World) (t1 t2:TypeId):A1p (((w.alloc (.cells #[.slice none 0 0] t1)).alloc (.cells #[.map (some (w.heap.size+1+1))] t2)).alloc (.map #[] 0)) w.heap.size w.heap.size (w.heap.size+1) (w.heap.size+1+1) [] (.slice none 0 0)∧A0 w (((w.alloc (.cells #[.slice none 0 0] t1)).alloc (.cells #[.map (some (w.heap.size+1+1))] t2)).alloc (.map #[] 0)):=by
 have b0:(w.alloc (.cells #[.slice none 0 0] t1)).heap[w.heap.size]?=some (.cells #[.slice none 0 0] t1 (0,0)):=heap_alloc_new w _;have b1:((w.alloc (.cells #[.slice none 0 0] t1)).alloc (.cells #[.map (some (w.heap.size+1+1))] t2)).heap[w.heap.size+1]?=some (.cells #[.map (some (w.heap.size+1+1))] t2 (0,0)):=by
  have:=heap_alloc_new (w.alloc (.cells #[.slice none 0 0] t1)) (.cells #[.map (some (w.heap.size+1+1))] t2);simpa using this
 have x0:A0 (w.alloc (.cells #[.slice none 0 0] t1)) (((w.alloc (.cells #[.slice none 0 0] t1)).alloc (.cells #[.map (some (w.heap.size+1+1))] t2)).alloc (.map #[] 0)):=((A0.refl _).alloc_ _).alloc_ _;have x1:A0 ((w.alloc (.cells #[.slice none 0 0] t1)).alloc (.cells #[.map (some (w.heap.size+1+1))] t2)) (((w.alloc (.cells #[.slice none 0 0] t1)).alloc (.cells #[.map (some (w.heap.size+1+1))] t2)).alloc (.map #[] 0)):=(A0.refl _).alloc_ _;have c0:((((w.alloc (.cells #[.slice none 0 0] t1)).alloc (.cells #[.map (some (w.heap.size+1+1))] t2)).alloc (.map #[] 0))).heap[w.heap.size]?=some (.cells #[.slice none 0 0] t1 (0,0)):=by rw[Below.block x0 _ (by simp)];exact b0
 have c1:((((w.alloc (.cells #[.slice none 0 0] t1)).alloc (.cells #[.map (some (w.heap.size+1+1))] t2)).alloc (.map #[] 0))).heap[w.heap.size+1]?=some (.cells #[.map (some (w.heap.size+1+1))] t2 (0,0)):=by rw[Below.block x1 _ (by simp)];exact b1
 refine⟨⟨⟨Nat.le_refl _,⟨_,_,c0⟩,?_,I9.nil _ _ _,by simp[Value.ownBlock]⟩,by omega,⟨_,_,c1⟩,?_,by omega,?_,by omega,by omega,by omega,by simp[Value.ownBlock],by simp[Value.ownBlock]⟩,?_⟩
 ·rw[cell_of_row _ _ 0 _ _ _ c0];rfl
 ·rw[cell_of_row _ _ 0 _ _ _ c1];rfl
 ·have:=N8.made ((w.alloc (.cells #[.slice none 0 0] t1)).alloc (.cells #[.map (some (w.heap.size+1+1))] t2)) .i64;have e:((w.alloc (.cells #[.slice none 0 0] t1)).alloc (.cells #[.map (some (w.heap.size+1+1))] t2)).heap.size=w.heap.size+1+1:=by simp
  rw[e] at this;exact this
 ·exact (((A0.refl w).alloc_ _).alloc_ _).alloc_ _
def D4a (w:World) (M:A7) (e:Ending) (w':World):Prop :=
 ∃ a c mb,e=.returned (.tuple #[.slice a (F5 M).length c,.map (some mb)])∧I9 w' w.heap.size 3 (.slice a (F5 M).length c) (K6 (G9 (F5 M)))∧N8 w' mb .i64 (mvE (A0a (G9 (F5 M))))∧w.heap.size≤mb∧(Value.slice a (F5 M).length c).ownBlock≠some mb∧A0 w w'
theorem B7g (b o:Nat) (M:A7) (S:C8) (w:World) (hM:G8 w b o M S) (hg:goodB M=true) :
  Calls Tryz.prog 53 #[.pointer (some ⟨b,o,none⟩)] w (D4a w M):=by
 obtain⟨hs,hob,hro,hwk,hfo,hid⟩:=K5 hg;have hlM:=A3u hs;have hlo:=B7v hs;have hRB:Hid (∀ k,k<M.roots.length→(0≤M.roots.getD k 0∧M.roots.getD k 0≤18446744073709551615)∧D0 (C6 M) (M.roots.getD k 0)=true):=fun k hk=>⟨Y1 (P:=fun x=>0≤x∧x≤18446744073709551615) hM.ok.roots hk,A4d hro hk⟩
 have hlt0:=hM.lt;have hRl:=hM.ok.lenR;have HM:=Hz hM;have HG:=Hz hg;have HS:=Hz hs;have HFO:=Hz hfo;have HLO:Hid ((D8 M).length≤1000000):=by unfold Hid;omega
 have hmm:=@run_makeMap Tryz.prog;clear hM hg hs hob hro hwk hfo hid hlo
 go_enter Tryz.func53,Tryz.ntmps53
 go_upto_region 3 with fail
 refine P4 (fun W1 hW1=>?_);obtain⟨hN1,hE1⟩:=F0n w 22 103;rw[←hW1] at hN1 hE1;have HN1:=Hz hN1;have HE1:=Hz hE1;clear hW1 hN1 hE1;generalize hfb:w.heap.size=fb at *
 have HFB:=Hz hfb;have c7:=(HM.out.ext HE1.out).roots;clear hfb;go_wp2;clear c7;generalize hRA:S.R.1=RA;have HRA:=Hz hRA;clear hRA
 go_loopg [19] (M.roots.length) (fun r i wr=>∃ (k:Nat) (v:Value),k+r=M.roots.length∧i=.int .i64 (k:Int)∧Hid (A1p wr fb fb (fb+1) (fb+1+1) (G9 (M8 M.W [] (M.roots.take k))) v)∧Hid (Y5 M (M8 M.W [] (M.roots.take k)))∧Hid (A0 w wr))
 case atStart=>exact⟨0,_,by omega,rfl,HN1.out,Y5.nil M,HE1.out⟩
 case round =>
  clear HN1 HE1;obtain⟨k,v,hk,rfl,hN,hG,hE⟩:=hrel;have hMr:G8 wr b o M S:=HM.out.ext hE.out
  cases gk with
  | succ r =>
   have hlt:k<M.roots.length:=by omega
   have hltz:(k:Int)<(M.roots.length:Int):=by omega
   obtain⟨rb,ro,hRa,hc⟩:=hMr.rR k _ (K2 M.roots k hlt);have hgd:M.roots[k]=M.roots.getD k 0:=by rw[Za,Zb hlt];rfl
   have hc':wr.cell? ⟨rb,ro+k,none⟩=some (.int .u64 (M.roots.getD k 0)):=hc;have hRe:RA=some ⟨rb,ro,none⟩:=HRA.out.symm.trans hRa;subst hRe;obtain⟨⟨hu2,hu3⟩,hu1⟩:=hRB.out k hlt;have hsn:M8 M.W [] (M.roots.take (k+1))=T5 M.W (M8 M.W [] (M.roots.take k)) (M.roots.getD k 0):=by
    unfold M8;rw[List.take_add_one,Zb hlt,List.foldl_append,hgd];rfl
   generalize M.roots.getD k 0=u at *
   generalize M8 M.W [] (M.roots.take k)=out at *
   have HSN:=Hz hsn;have HU1:=Hz hu1;have HK:=Hz hk;have hgl:=hG.out.len;have HLL:Hid (out.length≤1000000):=by have:=HLO.out;unfold Hid;omega
   clear hsn hu1 hgd hlt hk hMr hc hRa hgl
   go_wp2_with (go_at_call 112;refine (C4l u hu2 hu3 fb fb (fb+1) (fb+1+1) (G9 out) v _ hN.out (by rw[A4o];exact HLL.out)).mono ?_;rintro e w2 ⟨rfl,v2,hN2,hK2,hv2⟩;rw[C4m HG.out HU1.out,←HSN.out] at hN2;have HN2:=Hz hN2;have HK2:=Hz hK2;clear hN2 hK2 hv2)
   go_roundg r
   case measure=>omega
   case rel=>exact⟨k+1,v2,by have:=HK.out;omega,by go_num,HN2.out,by unfold Hid;rw[HSN.out];exact hG.out.come HU1.out,A0.keep hE.out HK2.out fun i hi=>by have:=(hN.out.own hi).1;rw[HFB.out];exact this⟩
  | zero =>
   obtain rfl:k=M.roots.length:=by omega
   have hltz:¬((M.roots.length:Nat):Int)<(M.roots.length:Int):=by omega
   rw[List.take_length] at hN hG;clear hMr hk;go_wp2
   go_loopg [7] (M.W.length) (fun r i wr=>∃ (k:Nat) (v:Value) (out:List Ob),k+r=M.W.length∧i=.int .i64 (k:Int)∧Hid (A1p wr fb fb (fb+1) (fb+1+1) (G9 out) v)∧Hid (Y5 M out)∧Hid (reachG M.W r k out=F5 M)∧Hid (A0 w wr))
   case atStart=>exact⟨0,v,_,by omega,rfl,hN.out,hG.out,rfl,hE.out⟩
   case round =>
    clear hN hG hE;obtain⟨k,v,out,hk,rfl,hN,hG,hR,hE⟩:=hrel;obtain⟨ta,tc,rfl,hRt⟩:=hN.out.fr.open_;have hcO:=hN.out.fr.cell;rw[A4o] at hcO;have hlen:=B8x HG.out hG.out;by_cases hlt:k<out.length
    ·obtain⟨r,rfl⟩:∃ r,gk=r+1:=⟨gk-1,by omega⟩;have hltz:(k:Int)<(out.length:Int):=by omega
     have hk6:k≤1000000:=by omega
     have hmem:=hG.out.mem _ (List.getElem_mem hlt);have hat:(G9 out)[k]'(by rw[A4o];exact hlt)=(out[k].a:Int):=by simp[G9]
     obtain⟨tb,tp,rfl,hc0⟩:=hRt _ _ (B5b (G9 out) k (by rw[A4o];exact hlt));rw[hat] at hc0;have hR2:reachG M.W r (k+1) (V7 M.W out out[k])=F5 M:=by
      have:=hR.out;rw[reachG,Zb hlt] at this;exact this
     have hget:out[k]?=some out[k]:=Zb hlt;obtain⟨m1,m2,m3⟩:=A2z HS.out hmem;have hsz:=B6p HM.out.ok HS.out hmem;have hfl:=fun hr=>fun j hj=>B1t (M:=M) HFO.out hmem hr j hj
     generalize out[k]=x at *
     have hxw:=O6 HM.out.ok x.a;rw[←m2] at hxw;have hMr:G8 wr b o M S:=HM.out.ext hE.out;have c3:=hMr.W;have hil:x.a<M.W.length:=by omega
     have hilz:(x.a:Int)<(M.W.length:Int):=by omega
     obtain⟨wb,wo,hWa,hcW⟩:=hMr.rW x.a _ (K2 M.W x.a hil);have hcW':wr.cell? ⟨wb,wo+x.a,none⟩=some (.int .u64 x.w):=by rw[hcW,m2];simp[A6,Za,hil]
     rw[hWa] at c3;have hbl:=hMr.lt;have HWA:=Hz hWa;have HK:=Hz hk;have HFL:=Hz hfl;have HR2:=Hz hR2;have HGET:=Hz hget;have HMEM:=Hz hmem;have HM2:=Hz m2;have HM3:=Hz m3;have HXW:=Hz hxw;have HSZ:=Hz hsz;have HM1:=Hz m1;clear hR hRt hat hmem hget hfl m2 m3 hR2 hk hcW hWa hMr hxw hsz hlt m1 hil hlen;have l1:=B9 hcO;have l2:=B9 hc0;have l3:=B9 hcW';simp only at l1 l2 l3
     go_upto_region 11 with fail
     go_cut [8,9] from 27 to 77 (fun p q wx=>∃ H:Nat,p=.pointer (some ⟨H,0,none⟩)∧q=.nilIface∧wx.cell? ⟨H,0,none⟩=some (.int .i64 (B3 x.w))∧wx.cell? ⟨H,3,none⟩=some (.int .i64 (B5 x.w))∧Hid (A0 wr wx))
     case first =>
      refine wp_region_held_drew (S:=fun W=>W.cell? ⟨b,o+3,none⟩=some (.slice (some ⟨wb,wo,none⟩) M.W.length S.W.2)∧W.cell? ⟨fb,0,none⟩=some (.slice (some ⟨tb,tp,none⟩) out.length tc)∧W.cell? ⟨tb,tp+k,none⟩=some (.int .i64 (x.a:Int))∧W.cell? ⟨wb,wo+x.a,none⟩=some (.int .u64 x.w)) (by kernel_rfl) ?_ (fun hH=>?_)
      ·exact⟨c3,hcO,hc0,hcW'⟩
      refine tJ 0 34 rfl ?_
      try simp only[A5]
      refine tJ 1 35 rfl ?_
      try simp only[A5]
      refine tJ 2 36 rfl ?_
      try simp only[A5]
      refine tJ 3 37 rfl ?_
      try simp only[A5]
      refine tJ 4 38 rfl ?_
      try simp only[A5]
      refine tJ 5 39 rfl ?_
      try simp only[A5]
      refine tJ 6 40 rfl ?_
      try simp only[A5]
      refine tJ 7 41 rfl ?_
      try simp only[A5]
      refine tJ 8 42 rfl ?_
      try simp only[A5]
      refine tJ 9 43 rfl ?_
      try simp only[A5]
      refine wpAnyH_ready (rs:=[10,14]) (by kernel_rfl) (by simp) ?_;refine AllReadyH.cons (o:=⟨some 44,_,_,_,_,_⟩) rfl (fun K hK=>?_) (AllReadyH.cons (o:=⟨some 8,_,_,_,_,_⟩) rfl (fun K hK=>?_) AllReadyH.nil)
      ·skip;go_simp;refine (A3d x.w HXW.out.1 HXW.out.2 HM3.out _).mono ?_;rintro e w2 ⟨rfl,hq⟩;have q1:=hq.cell_ hH.1;have q2:=hq.cell_ hH.2.1;have q3:=hq.cell_ hH.2.2.1;have q4:=hq.cell_ hH.2.2.2;have HX2:=Hz hq;clear hq;refine hK.out _ _ ?_ (fun hH=>?_)
       ·(try dsimp only);exact⟨q1,q2,q3,q4⟩
       clear hK K
       try simp only[A5]
       refine tJ 11 33 rfl ?_
       try simp only[A5]
       refine tJ 12 45 rfl ?_
       try simp only[A5]
       refine tJ 13 46 rfl ?_
       try simp only[A5]
       refine wpAnyH_ready (rs:=[14]) (by kernel_rfl) (by simp) ?_;refine AllReadyH.cons (o:=⟨some 8,_,_,_,_,_⟩) rfl (fun K hK=>?_) AllReadyH.nil;go_simp;skip;refine hK.out _ _ ?_ (fun hH=>?_)
       ·(try dsimp only);exact⟨A0.cell_ (w:=w2) eX q1,A0.cell_ (w:=w2) eX q2,A0.cell_ (w:=w2) eX q3,A0.cell_ (w:=w2) eX q4⟩
       clear hK K
       try simp only[A5]
       refine wpAnyH_ready (rs:=[15]) (by kernel_rfl) (by simp) ?_;refine AllReadyH.cons (o:=⟨none,_,_,_,_,_⟩) rfl (fun K hK=>?_) AllReadyH.nil;go_simp;skip;refine hK.out _ _ ?_ (fun hH=>?_)
       ·(try dsimp only);exact⟨A0.cell_ (w:=w2) eX q1,A0.cell_ (w:=w2) eX q2,A0.cell_ (w:=w2) eX q3,A0.cell_ (w:=w2) eX q4⟩
       clear hK K
       try simp only[A5]
       refine tJ 16 9 rfl ?_
       try simp only[A5]
       refine wpAnyH_done (by kernel_rfl) ?_ _
       go_wp2_with fail
       go_meet
       case rel=>exact⟨w2.heap.size,rfl,rfl,by simp[go_sem],by simp[go_sem],((A0.refl wr).drew_.trans_ HX2.out).alloc_ _⟩
      ·skip;go_simp;refine hK.out _ _ ?_ (fun hH=>?_)
       ·(try dsimp only);exact⟨A0.cell_ (w:=wr) eX c3,A0.cell_ (w:=wr) eX hcO,A0.cell_ (w:=wr) eX hc0,A0.cell_ (w:=wr) eX hcW'⟩
       clear hK K
       try simp only[A5]
       refine wpAnyH_ready (rs:=[10]) (by kernel_rfl) (by simp) ?_;refine AllReadyH.cons (o:=⟨some 44,_,_,_,_,_⟩) rfl (fun K hK=>?_) AllReadyH.nil;go_simp;refine (A3d x.w HXW.out.1 HXW.out.2 HM3.out _).mono ?_;rintro e w2 ⟨rfl,hq⟩;have q1:=hq.cell_ hH.1;have q2:=hq.cell_ hH.2.1;have q3:=hq.cell_ hH.2.2.1;have q4:=hq.cell_ hH.2.2.2;have z0:=hq.cell_ (p:=⟨wr.heap.size,0,none⟩) (v:=.int .i64 0) (by simp[go_sem]);have z1:=hq.cell_ (p:=⟨wr.heap.size,1,none⟩) (v:=.int .i64 0) (by simp[go_sem]);have z2:=hq.cell_ (p:=⟨wr.heap.size,2,none⟩) (v:=.int .i64 0) (by simp[go_sem]);have z3:=hq.cell_ (p:=⟨wr.heap.size,3,none⟩) (v:=.int .i64 0) (by simp[go_sem]);have zf:∀ j,w2.frozen? ⟨wr.heap.size,j,none⟩=false:=fun j=>by rw[hq.three.2.1 _ _ (by simp)];simp[go_sem]
       have zf0:=zf 0;have zf1:=zf 1;have zf2:=zf 2;have zf3:=zf 3;have HX2:=Hz hq;clear zf;clear hq;refine hK.out _ _ ?_ (fun hH=>?_)
       ·(try dsimp only);exact⟨q1,q2,q3,q4⟩
       clear hK K
       try simp only[A5]
       refine tJ 11 33 rfl ?_
       try simp only[A5]
       refine tJ 12 45 rfl ?_
       try simp only[A5]
       refine tJ 13 46 rfl ?_
       try simp only[A5]
       refine wpAnyH_ready (rs:=[15]) (by kernel_rfl) (by simp) ?_;refine AllReadyH.cons (o:=⟨none,_,_,_,_,_⟩) rfl (fun K hK=>?_) AllReadyH.nil;go_simp;skip;refine hK.out _ _ ?_ (fun hH=>?_)
       ·(try dsimp only);exact⟨by (iterate 4 rw[Zc _ _ _ _ (by simp;omega)]);exact q1,by (iterate 4 rw[Zc _ _ _ _ (by simp;omega)]);exact q2,by (iterate 4 rw[Zc _ _ _ _ (by simp;omega)]);exact q3,by (iterate 4 rw[Zc _ _ _ _ (by simp;omega)]);exact q4⟩
       clear hK K
       try simp only[A5]
       refine tJ 16 9 rfl ?_
       try simp only[A5]
       refine wpAnyH_done (by kernel_rfl) ?_ _
       go_wp2_with fail
       go_meet
       case rel =>
        refine⟨wr.heap.size,rfl,rfl,by simp[go_sem,z0],by simp[go_sem,z3],?_⟩;refine A0.set_ (A0.set_ (A0.set_ (A0.set_ (A0.trans_ ?_ HX2.out) ?_ _) ?_ _) ?_ _) ?_ _
        ·repeat (first|exact A0.refl _|(refine A0.drew_ ?_)|(refine A0.alloc_ ?_ _))
        all_goals simp
     case rest =>
      obtain⟨H,rfl,rfl,g0,g3,hX⟩:=hcut;have hEc:=hE.out.trans_ hX.out;have hHlt:=B9 g0;simp only at hHlt;have hN2:=hN.out.ext hX.out;have HN2:=Hz hN2;have HEC:=Hz hEc;have HG2:=hG;have hcO2:=hX.out.cell_ hcO;have hc02:=hX.out.cell_ hc0;clear hN hE hcO hc0 hcW' c3 hN2 hEc hG l1 l2 l3 hbl
      cases hr:D2 (B3 x.w) with
      | true =>
       have hR2:reachG M.W r (k+1) out=F5 M:=by
        have:=HR2.out;unfold V7 at this;rw[if_pos hr] at this;exact this
       have HR3:=Hz hR2;have HR:=Hz hr;clear hR2 hr
       go_wp2_with (go_at_call 89;refine (A3l _ _).mono ?_;rintro e w' ⟨he,hw9⟩;rw[HR.out] at he;subst he;have hw9:=hw9.symm;subst hw9)
       go_roundg r
       case measure=>omega
       case rel=>exact⟨k+1,_,out,by have:=HK.out;omega,by go_num,HN2.out,HG2.out,HR3.out,HEC.out⟩
      | false =>
       have HR:=Hz hr;clear hr
       go_upto_region 13 with (go_at_call 89;refine (A3l _ _).mono ?_;rintro e w' ⟨he,hw9⟩;rw[HR.out] at he;subst he;have hw9:=hw9.symm;subst hw9)
       have hMc:=HM.out.ext HEC.out;have c3:=hMc.W;rw[HWA.out] at c3;have hcap:=hMc.capW;have hbl:=hMc.lt;have hsz:=HSZ.out;have hm1:=HM1.out;obtain⟨A,C,hsl,hAC,hAn,hRA⟩:=B4x (P:=Tryz.prog) A0c A3w wb wo M.W.length S.W.2 (x.a+1) (x.a+1+x.n) ((x.a:Int)+1) ((x.a:Int)+1+B5 x.w) (by omega) (by omega) (by omega) (by omega);have HRA2:Hid (∀ wr,G8 wr b o M S→F7 wr A (C5 (flds M x))):=fun wr hr=>by
        have:=hRA wr _ (HWA.out ▸ hr.rW);rw[B3v M x (by omega)] at this;exact this
       rw[show x.a+1+x.n-(x.a+1)=x.n by omega] at hsl hAC;clear hRA;have e1:IntKind.i64.wrap ((x.a:Int)+1)=(x.a:Int)+1:=IntWalk.i64_in _ (by omega);have e2:IntKind.i64.wrap ((x.a:Int)+1+B5 x.w)=(x.a:Int)+1+B5 x.w:=IntWalk.i64_in _ (by omega);have hh1:(x.a:Int)+1+B5 x.w≤(S.W.2:Int):=by omega
       have hh2:(0:Int)≤(x.a:Int)+1:=by omega
       have hh3:(x.a:Int)+1≤(x.a:Int)+1+B5 x.w:=by omega
       have hxn:x.n≤1000000:=by omega
       clear hMc hcap hm1;go_region;go_wp2;have HXN:=Hz hxn;have HSZ2:=Hz hsz
       go_loopg [70] (x.n) (fun r i wr2=>∃ (j:Nat) (v2:Value) (out2:List Ob),j+r=x.n∧i=.int .i64 (j:Int)∧Hid (A1p wr2 fb fb (fb+1) (fb+1+1) (G9 out2) v2)∧Hid (Y5 M out2)∧Hid (out2=M8 M.W out ((flds M x).take j))∧Hid (A0 w wr2))
       case atStart=>exact⟨0,_,out,by omega,rfl,A1p.ext HN2.out eX,HG2.out,rfl,A0.trans_ HEC.out eX⟩
       case round =>
        obtain⟨j,v2,out2,hj,rfl,hN,hG,hV,hE⟩:=hrel
        cases gk with
        | succ r2 =>
         have hlt:j<x.n:=by omega
         have hltz2:(j:Int)<(x.n:Int):=by omega
         obtain⟨ab,ao,hA,hcell⟩:=HRA2.out _ (HM.out.ext hE.out) j _ (K2 (flds M x) j (by rw[A6b];exact hlt));rw[B6n M x j hlt] at hcell;subst hA;have hu:=O6 HM.out.ok (x.a+1+j);have hfl:=HFL.out HR.out j hlt;have hsn:=D8a M.W out (flds M x) j (by rw[A6b];exact hlt);rw[←hV.out,B6n M x j hlt] at hsn;generalize A6 M.W (x.a+1+j)=u at *
         have HU1:=Hz hu;have HFU:=Hz hfl;have HSN:=Hz hsn;have HJ:=Hz hj;have hgl:=hG.out.len;have HLL:Hid (out2.length≤1000000):=by have:=HLO.out;unfold Hid;omega
         clear hu hfl hsn hj hlt hgl
         go_wp2_with (go_at_call 112;refine (C4l u HU1.out.1 HU1.out.2 fb fb (fb+1) (fb+1+1) (G9 out2) v2 _ hN.out (by rw[A4o];exact HLL.out)).mono ?_;rintro e w3 ⟨rfl,v3,hN3,hK3,hv3⟩;rw[C4m HG.out HFU.out] at hN3;have HN3:=Hz hN3;have HK3:=Hz hK3;clear hN3 hK3 hv3)
         go_roundg r2
         case measure=>omega
         case rel=>exact⟨j+1,v3,_,by have:=HJ.out;omega,by go_num,HN3.out,hG.out.come HFU.out,HSN.out.symm,A0.keep hE.out HK3.out fun i hi=>by have:=(hN.out.own hi).1;rw[HFB.out];exact this⟩
        | zero =>
         obtain rfl:j=x.n:=by omega
         have hltz2:¬((x.n:Nat):Int)<(x.n:Int):=by omega
         have hV2:out2=V7 M.W out x:=by
          have:=hV.out;unfold V7;rw[if_neg (by rw[HR.out];simp),this,List.take_of_length_le (by rw[A6b];exact Nat.le_refl _)];rfl
         have HV2:=Hz hV2;clear hV hV2 hj;go_wp2
         go_roundg r
         case measure=>omega
         case rel=>exact⟨k+1,v2,out2,by have:=HK.out;omega,by go_num,hN.out,hG.out,by rw[HV2.out];exact HR2.out,hE.out⟩
    ·have hltz:¬(k:Int)<(out.length:Int):=by omega
     have hEnd:reachG M.W gk k out=out:=D0v M.W gk k out (by omega);have hres:out=F5 M:=by rw[←hR.out,hEnd]
     have HRES:=Hz hres;have hf0:=hN.out.fr.frozen 0;have hn0:=hN.out.ncell;have hf1:wr.frozen? ⟨fb+1,0,none⟩=false:=by
      obtain⟨cur,t,hc⟩:=hN.out.nblk;simp[World.frozen?,hc]
     have hl1:=hN.out.nlt;have hl0:=hN.out.fr.lt;clear hEnd hres hR hk;go_wp2;go_region;go_wp2;refine C8v (fun W5 hW5=>?_);have hblk:∀ g,(Value.slice ta out.length tc).ownBlock=some g→W5.heap[g]?=wr.heap[g]?:=fun g hg=>by
      rw[hW5];have h1:g≠fb:=fun e=>hN.out.fr.no (by rw[A4o,hg,e])
      have h2:g≠fb+1:=fun e=>hN.out.vn (by rw[A4o,hg,e])
      show ((wr.setCell _ _).setCell _ _).heap[g]?=_;rw[heap_setCell_other _ _ _ _ h2,heap_setCell_other _ _ _ _ h1]
     have hT:I9 W5 fb 3 (.slice ta out.length tc) (K6 (G9 out)):=I9.kept (by have:=hN.out.fr.row;rw[A4o] at this;exact this) hblk;have hMp:N8 W5 (fb+1+1) .i64 (mvE (A0a (G9 out))):=by rw[hW5];exact (hN.out.map.setCell _ _).setCell _ _
     have hX5:A0 w W5:=by
      rw[hW5];have h0:=HFB.out;refine A0.drew_ (A0.set_ (A0.set_ hE.out ?_ _) ?_ _)<;>simp only<;>omega
     have k0:W5.cell? ⟨fb,0,none⟩=some (.slice ta out.length tc):=by rw[hW5];simp[go_sem,hcO]
     have k1:W5.cell? ⟨fb+1,0,none⟩=some (.map (some (fb+1+1))):=by rw[hW5];simp[go_sem,hn0]
     have hvm:(Value.slice ta out.length tc).ownBlock≠some (fb+1+1):=by have:=hN.out.vm;rw[A4o] at this;exact this
     clear hW5 hblk;rw[HRES.out] at hT hMp k0 hvm;refine bodyPost_ret (v:=.tuple #[.slice ta (F5 M).length tc,.map (some (fb+1+1))]) (by simp[results,Tryz.results53,go_sem,k0,k1]) rfl ?_;exact⟨ta,tc,fb+1+1,rfl,by rw[HFB.out];exact hT,hMp,by have:=HFB.out;omega,hvm,hX5⟩
end Go.Proofs.YtelhoppfidibiaaGreatDoor
