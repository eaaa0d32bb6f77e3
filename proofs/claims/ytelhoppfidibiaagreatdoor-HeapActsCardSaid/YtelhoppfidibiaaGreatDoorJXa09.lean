/- The walk of Memory.Check: the numbered objects, the cards. -/
import Derived.Test.YtelhoppfidibiaaGreatDoorJXa08
set_option linter.unusedSimpArgs false
set_option linter.unusedVariables false
set_option maxHeartbeats 8000000
set_option maxRecDepth 100000
namespace Go.Proofs.YtelhoppfidibiaaGreatDoor
open Go.RowKit
open IntWalk renaming i64_in→Za
open Go.Proofs.Tryz renaming prog→Zb
theorem D2v:Zb.underlying 203=some (.map 78 4):=by kernel_rfl
theorem D3c:Zb.underlying 78=some (.int .u64):=by kernel_rfl
theorem F5t {w:World} {bm:Nat} {st:List Int} (h:N9 w bm .u64 st) (a:Int) :
  (Instr.lookup 203 (.map (some bm)) (.int .u64 a) false).run Zb w=.ok (.bool (F8 st a)) w:=by
 obtain⟨es,hm,hg⟩:=h;rw[B4w D2v D3c (B8z w) hm a false,hg a];unfold F8
 cases st.contains a<;>rfl
theorem F5u {w:World} {bm:Nat} {st:List Int} (h:N9 w bm .u64 st) (a:Int) :
  ∃ w',(Instr.mapUpdate 203 (.map (some bm)) (.int .u64 a) (.bool true)).run Zb w=.ok () w'∧N9 w' bm .u64 (st++[a])∧But bm w w':=by
 obtain⟨es,hm,hg⟩:=h;obtain⟨w',h1,h2,h3⟩:=B2l (P:=Zb) D2v D3c hm a (.bool true);exact⟨w',h1,N9.put a hg h2,h3⟩
def A2x (M:A7) (gs gp:Addr):Value:=if T0 (C6 M) [] M.ids=true then (if A0p M=true then .nilIface else E0 gp) else E0 gs
theorem B0n (st:List Int) (pre:List (Int × Int)) (x1 x2:Int):A4s st pre (x1,x2)=(!(((((C7 x1 != 0)||(x1==0))||!D0 st x1)||decide (x2<1))||F8 (pre.map (·.1)) x1)&&!F8 (pre.map (·.2)) x2):=rfl
theorem D6y (b o:Nat) (M:A7) (S:C8) (gb gs gp:Addr) (w:World) (hM:G8 w b o M S) (hG:A1o w gb) (hS:A0d w gs) (hP:B0c w gp) (hs:P1 M=true) (h1:M9 M (L3 M)=true) (h2:J6 (C6 M) M.roots=true) (h3:J6 (C6 M) M.weak=true) (h4:M9 M (R2 M (C6 M))=true) :
  Calls Zb 90 #[.pointer (some ⟨b,o,none⟩)] w fun e w'=>e=.returned (A2x M gs gp)∧A0 w w':=by
 have hh:=A9r hs;have hmm:=@run_makeMap Zb;have HM:=Hz hM;have HG:=Hz hG;have HH:=Hz hh;have HS:=Hz hS;have HP:=Hz hP;have H1:=Hz h1;have HR:=Hz h2;have HW:=Hz h3;have HO:=Hz h4;clear h2 h3 h4;have hltb:=hM.lt;have hltg:=B9 hS;have hltp:=B9 hP;simp only at hltg hltp;clear hM hG hh hP
 go_enter Tryz.func90,Tryz.ntmps90
 go_wp2_with (first
  | (go_at_call 134;refine (B2m _ b o M S ?_).mono ?_;(exact HM.out.ext ((A0.refl w).alloc_ _));rintro e w' ⟨rfl,n,rfl⟩;rw[hs]))
 refine (B4n w b o M S HH.out HM.out gb gs HG.out hS (w.heap.size+1) (w.heap.size+1+1) w.heap.size _ ?_ (by omega) (by omega) (by omega) ?_ ?_ ?_).mono ?_
 ·repeat (first|exact A0.refl _|(refine A0.set_ ?_ (by simp) _)|(refine A0.alloc_ ?_ _)|(refine A0.drewN_ ?_ _))
 ·exact N9.made_ (w:=(w.alloc _).drewN n) _ (by simp) (by repeat (first|exact A0.refl _|(refine A0.set_ ?_ (by simp) _)|(refine A0.alloc_ ?_ _)))
 ·simp[go_sem]
 ·simp[go_sem]
 rintro e w1 ⟨rfl,hsm,hK⟩;rw[h1];have hx:A0 w w1:=A0.keep (by repeat (first|exact A0.refl _|(refine A0.set_ ?_ (by simp) _)|(refine A0.alloc_ ?_ _)|(refine A0.drewN_ ?_ _))) hK (fun i hi=>by omega);have f1:w1.cell? ⟨w.heap.size,0,none⟩=some (.pointer (some ⟨b,o,none⟩)):=hK.cell (by simp) (by simp[go_sem]);have f3:w1.cell? ⟨w.heap.size+1+1,0,none⟩=some (.map (some (w.heap.size+1))):=hK.cell (by simp) (by simp[go_sem]);have z1:w.heap.size+1+1<w1.heap.size:=by have:=hK.size;simp at this;omega
 have HX1:=Hz hx;have HSM:=Hz (hsm h1);clear hsm hK hx hS h1;go_wp2;refine B4k (fun W9 hW9=>?_);have g5:W9.cell? ⟨w1.heap.size+1,0,none⟩=some (.func (.func 139) #[] #[.pointer (some ⟨w1.heap.size,0,none⟩)]):=by rw[hW9];simp[go_sem]
 have g4:W9.cell? ⟨w1.heap.size,0,none⟩=some (.func (.func 137) #[] #[.pointer (some ⟨w.heap.size+1+1,0,none⟩)]):=by rw[hW9];simp[go_sem]
 have g6:W9.cell? ⟨w1.heap.size+1+1,0,none⟩=some (.bool true):=by rw[hW9];simp[go_sem]
 have u6:W9.frozen? ⟨w1.heap.size+1+1,0,none⟩=false:=by rw[hW9];simp[go_sem]
 have hx9:A0 w1 W9:=by rw[hW9];repeat (first|exact A0.refl _|(refine A0.alloc_ ?_ _))
 have g1:=hx9.cell_ f1;have g3:=hx9.cell_ f3;have hsm9:=HSM.out.ext hx9;have hxx:A0 w W9:=A0.trans_ HX1.out hx9;have hM9:=HM.out.ext hxx;have gr:=hM9.roots;have gk:=hM9.weak;have z9:w1.heap.size+1+1<W9.heap.size:=B9 g6;have G3:=Hz g3;have G4:=Hz g4;have G6:=Hz g6;have U6:=Hz u6;have SM9:=Hz hsm9;have HX9:=Hz hxx;clear hW9 hx9 f1 f3 g3 g4 g6 u6 hsm9 hxx hM9 HSM;refine wp_region_held_drew (S:=fun W=>W.cell? ⟨w1.heap.size+1,0,none⟩=some (.func (.func 139) #[] #[.pointer (some ⟨w1.heap.size,0,none⟩)])∧W.cell? ⟨w.heap.size,0,none⟩=some (.pointer (some ⟨b,o,none⟩))∧W.cell? ⟨b,o+7,none⟩=some (.slice S.R.1 M.roots.length S.R.2)∧W.cell? ⟨b,o+8,none⟩=some (.slice S.K.1 M.weak.length S.K.2)) (by kernel_rfl) ?_ (fun hH=>?_)
 ·exact⟨g5,g1,gr,gk⟩
 refine tJ 0 27 rfl ?_
 try simp only[A5]
 refine tJ 1 28 rfl ?_
 try simp only[A5]
 refine tJ 2 29 rfl ?_
 try simp only[A5]
 refine tJ 3 30 rfl ?_
 try simp only[A5]
 refine tJ 4 31 rfl ?_
 try simp only[A5]
 refine wpAnyH_ready (rs:=[5]) (by kernel_rfl) (by simp) ?_;refine AllReadyH.cons (o:=⟨some 32,_,_,_,_,_⟩) rfl (fun K hK=>?_) AllReadyH.nil;go_simp;refine (A8y S.R.1 S.R.2 M.roots ?_ ?_ (w.heap.size+1) (w.heap.size+1+1) w1.heap.size (C6 M) _ ?_ ?_ ?_ ?_).mono ?_
 ·exact HM.out.ok.lenR
 ·exact HM.out.ok.roots
 ·exact (HM.out.ext (A0.trans_ HX9.out eX)).rR
 ·exact SM9.out.ext eX
 ·exact A0.cell_ eX G3.out
 ·exact A0.cell_ eX G4.out
 rintro e w2 ⟨he,hq⟩;rw[HR.out] at he;subst he;have HE2:Hid (A0 W9 w2):=A0.trans_ eX hq;have d2:=hq.cell_ hH.1;have d2a:=hq.cell_ hH.2.1;have d2b:=hq.cell_ hH.2.2.1;have d2c:=hq.cell_ hH.2.2.2;clear hq;refine hK.out _ _ ?_ (fun hH=>?_)
 ·(try dsimp only);exact⟨d2,d2a,d2b,d2c⟩
 clear hK K
 try simp only[A5]
 refine tJ 6 33 rfl ?_
 try simp only[A5]
 refine tJ 7 34 rfl ?_
 try simp only[A5]
 refine tJ 8 35 rfl ?_
 try simp only[A5]
 refine tJ 9 36 rfl ?_
 try simp only[A5]
 refine tJ 10 37 rfl ?_
 try simp only[A5]
 refine tJ 11 38 rfl ?_
 try simp only[A5]
 refine tJ 12 39 rfl ?_
 try simp only[A5]
 refine wpAnyH_ready (rs:=[13]) (by kernel_rfl) (by simp) ?_;refine AllReadyH.cons (o:=⟨some 40,_,_,_,_,_⟩) rfl (fun K hK=>?_) AllReadyH.nil;go_simp;refine (A8y S.K.1 S.K.2 M.weak ?_ ?_ (w.heap.size+1) (w.heap.size+1+1) w1.heap.size (C6 M) _ ?_ ?_ ?_ ?_).mono ?_
 ·exact HM.out.ok.lenK
 ·exact HM.out.ok.weak
 ·exact (HM.out.ext (A0.trans_ HX9.out (by exact HE2.out))).rK
 ·exact SM9.out.ext (by exact HE2.out)
 ·exact A0.cell_ (by exact HE2.out) G3.out
 ·exact A0.cell_ (by exact HE2.out) G4.out
 rintro e w3 ⟨he,hq⟩;rw[HW.out] at he;subst he;have HE3:Hid (A0 W9 w3):=A0.trans_ (by exact HE2.out) hq;have d3:=hq.cell_ hH.1;have d3a:=hq.cell_ hH.2.1;have d3b:=hq.cell_ hH.2.2.1;have d3c:=hq.cell_ hH.2.2.2;clear hq;refine hK.out _ _ ?_ (fun hH=>?_)
 ·(try dsimp only);exact⟨d3,d3a,d3b,d3c⟩
 clear hK K
 try simp only[A5]
 refine tJ 14 41 rfl ?_
 try simp only[A5]
 refine tJ 15 42 rfl ?_
 try simp only[A5]
 refine tJ 16 43 rfl ?_
 try simp only[A5]
 refine tJ 17 44 rfl ?_
 try simp only[A5]
 refine tJ 18 45 rfl ?_
 try simp only[A5]
 refine wpAnyH_ready (rs:=[19]) (by kernel_rfl) (by simp) ?_;refine AllReadyH.cons (o:=⟨some 46,_,_,_,_,_⟩) rfl (fun K hK=>?_) AllReadyH.nil;go_simp;refine (C9p w b o M S HH.out HM.out gb gs HG.out HS.out w.heap.size (w.heap.size+1+1) w1.heap.size (w1.heap.size+1) (w1.heap.size+1+1) (w.heap.size+1) (C6 M) _ ?_ (by omega) (by omega) (by omega) (by omega) (by omega) (by omega) ?_ ?_ ?_ ?_ ?_ ?_ ?_).mono ?_
 ·exact A0.trans_ HX9.out HE3.out
 ·exact SM9.out.ext HE3.out
 ·exact hH.2.1
 ·exact HE3.out.cell_ G3.out
 ·exact HE3.out.cell_ G4.out
 ·exact hH.1
 ·exact HE3.out.cell_ G6.out
 ·rw[HE3.out.three.2.1 _ _ z9];exact U6.out
 rintro e w4 ⟨he,hc6,hK⟩;rw[HO.out] at he;subst he;have HE4:Hid (A0 w w4):=A0.keep (A0.trans_ HX9.out HE3.out) hK (fun i hi=>by omega);have d4:=hK.cell (by simp) hH.1;have d4a:=hK.cell (by simp;omega) hH.2.1;have d4b:=hK.cell (by simp;omega) hH.2.2.1;have d4c:=hK.cell (by simp;omega) hH.2.2.2;have HC6:=Hz hc6;have HK4:=Hz hK;clear hc6 hK;refine hK.out _ _ ?_ (fun hH=>?_)
 ·(try dsimp only);exact⟨d4,d4a,d4b,d4c⟩
 clear hK K
 try simp only[A5]
 refine tJ 20 47 rfl ?_
 try simp only[A5]
 refine tJ 21 48 rfl ?_
 try simp only[A5]
 refine wpAnyH_done (by kernel_rfl) ?_ _;have hx:A0 w w4:=HE4.out;have hM4:=HM.out.ext hx;have ci:=hM4.ids;have hc6:=HC6.out HO.out;have z4:=B9 hc6;simp only at z4;have z5:w.heap.size<w4.heap.size:=by omega
 have z6:b<w4.heap.size:=by omega
 have hil:M.ids.length≤9223372036854775807:=HM.out.ok.lenI;have HI4:=Hz hM4.rI;have hK4:A8 (·=w1.heap.size+1+1) W9 w4:=A8.trans (A8.of_ext HE3.out) HK4.out;have G34:=Hz (hK4.cell (by simp;omega) G3.out);have G44:=Hz (hK4.cell (by simp;omega) G4.out);have SM4:=Hz (SM9.out.keep hK4 (by simp;omega));have HX4:=Hz hx;have C64:=Hz hc6;have hcap:=HM.out.capI;clear hH hM4 hx hK4 hc6 HC6 HK4;go_wp2
 go_loopw [57] (fun i wr=>∃ k:Nat,k≤M.ids.length∧i=.int .i64 (k:Int)∧Hid (N9 wr w4.heap.size .u64 ((M.ids.take k).map (·.1)))∧Hid (N9 wr (w4.heap.size+1) .i64 ((M.ids.take k).map (·.2))) ∧
   Hid (T0 (C6 M) [] M.ids=T0 (C6 M) (M.ids.take k) (M.ids.drop k))∧Hid (A0 w4 wr))
  (fun i _=>M.ids.length-(intOf i).toNat)
 case atStart =>
  exact⟨0,Nat.zero_le _,rfl,N9.made_ (w:=w4) _ rfl ((A0.refl _).alloc_ _),N9.made_ (w:=w4.alloc (.map #[] 0)) _ (by simp) (A0.refl _),rfl,((A0.refl w4).alloc_ _).alloc_ _⟩
 case round =>
  obtain⟨k,hk,rfl,hA,hB,hP,hq⟩:=hrel;have z7:=hq.out.size;have z8:w.heap.size<wr.heap.size:=by omega
  have z9':b<wr.heap.size:=by omega
  by_cases hlt:k<M.ids.length
  ·obtain⟨p1,p2⟩:=A6u M.ids k hlt;obtain⟨ib,io,hIa,hc1⟩:=HI4.out _ _ p1;have hc2:=(hIa ▸ HI4.out).at_ p2
   replace hc1:=hq.out.cell_ hc1
   replace hc2:=hq.out.cell_ hc2
   rw[←Nat.add_assoc] at hc2;have hltc:=B9 hc1;simp only at hltc;obtain⟨⟨hb0,hb1⟩,-⟩:=HM.out.ok.ids M.ids[k] (List.getElem_mem hlt);have HD:Hid (M.ids.drop k=(M.ids[k].1,M.ids[k].2)::M.ids.drop (k+1)):=List.drop_eq_getElem_cons hlt;have HT:Hid (M.ids.take (k+1)=M.ids.take k++[(M.ids[k].1,M.ids[k].2)]):=by
    unfold Hid;rw[List.take_succ_eq_append_getElem hlt]
   generalize M.ids[k].1=x1 at *
   generalize M.ids[k].2=x2 at *
   have f1r:=hq.out.cell_ d4a;have f4r:=hq.out.cell_ G44.out;have G3r:=Hz (((A0.refl wr).alloc_ (Obj.cells #[.int .u64 x1,.int .i64 x2] 140)).cell_ (hq.out.cell_ G34.out));have SM:=Hz (SM4.out.ext hq.out);have l1:=F5t (hA.out.ext ((A0.refl wr).alloc_ (Obj.cells #[.int .u64 x1,.int .i64 x2] 140))) x1;have l2:=D1q (hB.out.ext ((A0.refl wr).alloc_ (Obj.cells #[.int .u64 x1,.int .i64 x2] 140))) x2;have hgs:A0d wr gs:=hq.out.cell_ (HX4.out.cell_ HS.out);have z10:w1.heap.size<wr.heap.size:=by omega
   have zg:=B9 hgs;have z11:w.heap.size+1+1<wr.heap.size:=by omega
   simp only at zg;have hix:∀ W:World,(Instr.indexAt 80 (.slice S.I.1 M.ids.length S.I.2) (.int .i64 (k:Int))).run Zb W=.ok (.pointer (some ⟨ib,io+k*2,none⟩)) W:=fun W=>by
    rw[hIa];go_simp
   clear p1 p2 ci hIa;obtain⟨T1,hT1⟩:∃ T:List Int,T=(M.ids.take k).map (·.1):=⟨_,rfl⟩;obtain⟨T2,hT2⟩:∃ T:List Int,T=(M.ids.take k).map (·.2):=⟨_,rfl⟩;rw[←hT1] at l1;rw[←hT2] at l2;have HT1:=Hz hT1;have HT2:=Hz hT2;clear hT1 hT2
   cases q1:(C7 x1 != 0) with
   | true =>
    have HB:Hid (A4s (C6 M) (M.ids.take k) (x1,x2)=false):=by rw[Hid,B0n,←HT1.out,←HT2.out,q1];simp
    go_wp2_with (first
           | (go_at_call 103;refine (O8 _ hb0 hb1 _).mono ?_;rintro e w' ⟨rfl,rfl⟩)
           | (go_at_call 137;refine (A8x _ hb0 hb1 (w.heap.size+1) (w.heap.size+1+1) (C6 M) _ (SM.out.ext ((A0.refl wr).alloc_ _)) G3r.out).mono ?_;rintro e w' ⟨rfl,rfl⟩))
    go_ret;refine⟨?_,A0.trans_ HX4.out (A0.alloc_ hq.out _)⟩;have hf:A2x M gs gp=E0 gs:=by unfold A2x;rw[hP.out,HD.out,T0,HB.out];rfl
    rw[hf];rfl
   | false =>
    cases q2:(x1==0) with
    | true =>
     have HB:Hid (A4s (C6 M) (M.ids.take k) (x1,x2)=false):=by rw[Hid,B0n,←HT1.out,←HT2.out,q1,q2];simp
     go_wp2_with (first
            | (go_at_call 103;refine (O8 _ hb0 hb1 _).mono ?_;rintro e w' ⟨rfl,rfl⟩)
            | (go_at_call 137;refine (A8x _ hb0 hb1 (w.heap.size+1) (w.heap.size+1+1) (C6 M) _ (SM.out.ext ((A0.refl wr).alloc_ _)) G3r.out).mono ?_;rintro e w' ⟨rfl,rfl⟩))
     go_ret;refine⟨?_,A0.trans_ HX4.out (A0.alloc_ hq.out _)⟩;have hf:A2x M gs gp=E0 gs:=by unfold A2x;rw[hP.out,HD.out,T0,HB.out];rfl
     rw[hf];rfl
    | false =>
     cases q3:D0 (C6 M) x1 with
     | false =>
      have HB:Hid (A4s (C6 M) (M.ids.take k) (x1,x2)=false):=by rw[Hid,B0n,←HT1.out,←HT2.out,q1,q2,q3];simp
      go_wp2_with (first
             | (go_at_call 103;refine (O8 _ hb0 hb1 _).mono ?_;rintro e w' ⟨rfl,rfl⟩)
             | (go_at_call 137;refine (A8x _ hb0 hb1 (w.heap.size+1) (w.heap.size+1+1) (C6 M) _ (SM.out.ext ((A0.refl wr).alloc_ _)) G3r.out).mono ?_;rintro e w' ⟨rfl,rfl⟩))
      go_ret;refine⟨?_,A0.trans_ HX4.out (A0.alloc_ hq.out _)⟩;have hf:A2x M gs gp=E0 gs:=by unfold A2x;rw[hP.out,HD.out,T0,HB.out];rfl
      rw[hf];rfl
     | true =>
      by_cases q4:x2<1
      ·
       have HB:Hid (A4s (C6 M) (M.ids.take k) (x1,x2)=false):=by rw[Hid,B0n,←HT1.out,←HT2.out,q1,q2,q3,decide_eq_true q4];simp
       go_wp2_with (first
              | (go_at_call 103;refine (O8 _ hb0 hb1 _).mono ?_;rintro e w' ⟨rfl,rfl⟩)
              | (go_at_call 137;refine (A8x _ hb0 hb1 (w.heap.size+1) (w.heap.size+1+1) (C6 M) _ (SM.out.ext ((A0.refl wr).alloc_ _)) G3r.out).mono ?_;rintro e w' ⟨rfl,rfl⟩))
       go_ret;refine⟨?_,A0.trans_ HX4.out (A0.alloc_ hq.out _)⟩;have hf:A2x M gs gp=E0 gs:=by unfold A2x;rw[hP.out,HD.out,T0,HB.out];rfl
       rw[hf];rfl
      ·cases q5:F8 T1 x1 with
       | true =>
        have HB:Hid (A4s (C6 M) (M.ids.take k) (x1,x2)=false):=by rw[Hid,B0n,←HT1.out,←HT2.out,q1,q2,q3,decide_eq_false q4,q5];simp
        go_wp2_with (first
               | (go_at_call 103;refine (O8 _ hb0 hb1 _).mono ?_;rintro e w' ⟨rfl,rfl⟩)
               | (go_at_call 137;refine (A8x _ hb0 hb1 (w.heap.size+1) (w.heap.size+1+1) (C6 M) _ (SM.out.ext ((A0.refl wr).alloc_ _)) G3r.out).mono ?_;rintro e w' ⟨rfl,rfl⟩))
        go_ret;refine⟨?_,A0.trans_ HX4.out (A0.alloc_ hq.out _)⟩;have hf:A2x M gs gp=E0 gs:=by unfold A2x;rw[hP.out,HD.out,T0,HB.out];rfl
        rw[hf];rfl
       | false =>
        cases q6:F8 T2 x2 with
        | true =>
         have HB:Hid (A4s (C6 M) (M.ids.take k) (x1,x2)=false):=by rw[Hid,B0n,←HT1.out,←HT2.out,q1,q2,q3,decide_eq_false q4,q5,q6];simp
         go_wp2_with (first
                | (go_at_call 103;refine (O8 _ hb0 hb1 _).mono ?_;rintro e w' ⟨rfl,rfl⟩)
                | (go_at_call 137;refine (A8x _ hb0 hb1 (w.heap.size+1) (w.heap.size+1+1) (C6 M) _ (SM.out.ext ((A0.refl wr).alloc_ _)) G3r.out).mono ?_;rintro e w' ⟨rfl,rfl⟩))
         go_ret;refine⟨?_,A0.trans_ HX4.out (A0.alloc_ hq.out _)⟩;have hf:A2x M gs gp=E0 gs:=by unfold A2x;rw[hP.out,HD.out,T0,HB.out];rfl
         rw[hf];rfl
        | false =>
         have HB:Hid (A4s (C6 M) (M.ids.take k) (x1,x2)=true):=by rw[Hid,B0n,←HT1.out,←HT2.out,q1,q2,q3,decide_eq_false q4,q5,q6];rfl
         go_wp2_with (first
       | (go_at_call 103;refine (O8 _ hb0 hb1 _).mono ?_;rintro e w' ⟨rfl,rfl⟩)
       | (go_at_call 137;refine (A8x _ hb0 hb1 (w.heap.size+1) (w.heap.size+1+1) (C6 M) _ (SM.out.ext ((A0.refl wr).alloc_ _)) G3r.out).mono ?_;rintro e w' ⟨rfl,rfl⟩))
         have z12:=hB.out.lt;refine B4k (fun W5 hW5=>?_);have y1:W5.cell? ⟨wr.heap.size,0,none⟩=some (.int .u64 x1):=by rw[hW5];simp[go_sem]
         have y2:W5.cell? ⟨wr.heap.size,1,none⟩=some (.int .i64 x2):=by rw[hW5];simp[go_sem]
         have hx5:A0 wr W5:=by rw[hW5];repeat (first|exact A0.refl _|(refine A0.alloc_ ?_ _))
         have hE5:A0 w4 W5:=A0.trans_ hq.out hx5;have hA5:=hA.out.ext hx5;have hB5:=hB.out.ext hx5;obtain⟨wa,hu1,hm1,hb1⟩:=F5u (hA5.ext (A0.refl W5).drew_) x1;have hK1:=A8.of_but hb1;have e1:A0 w4 wa:=A0.keep (A0.trans_ hE5 (A0.refl W5).drew_) hK1 (fun i hi=>by omega);have y3:=hK1.cell (p:=⟨wr.heap.size,0,none⟩) (by simp;omega) (show W5.drew.cell? _=_ from y1);have y4:=hK1.cell (p:=⟨wr.heap.size,1,none⟩) (by simp;omega) (show W5.drew.cell? _=_ from y2);obtain⟨wb,hu2,hm2,hb2⟩:=D1r ((hB5.ext (A0.refl W5).drew_).keep hK1 (by omega)) x2;have hK2:=A8.of_but hb2;have e2:A0 w4 wb:=A0.keep e1 hK2 (fun i hi=>by omega);have y5:=hK2.cell (p:=⟨wr.heap.size,0,none⟩) (by simp;omega) y3;have y6:=hK2.cell (p:=⟨wr.heap.size,1,none⟩) (by simp;omega) y4;have HM1:=Hz (hm1.keep hK2 (by omega));have HM2:=Hz hm2;have HE9:=Hz e2;clear hW5 hA5 hB5 hx5 hE5 hm1 hm2 hb1 hb2 hK1 hK2 e1 e2;refine wp_region_held_drew (S:=fun W=>W.cell? ⟨wr.heap.size,0,none⟩=some (.int .u64 x1)∧W.cell? ⟨wr.heap.size,1,none⟩=some (.int .i64 x2)) (by kernel_rfl) ?_ (fun hH=>?_)
         ·exact⟨y1,y2⟩
         refine tJ 0 95 rfl ?_
         try simp only[A5]
         refine tJ 1 96 rfl ?_
         try simp only[A5]
         refine tJ 2 97 rfl ?_
         try simp only[A5]
         refine tJ 3 98 rfl ?_
         try simp only[A5]
         refine tJ 4 99 rfl ?_
         try simp only[A5]
         refine tJ 5 100 rfl ?_
         try simp only[A5]
         refine wpAnyH_ready (rs:=[6]) (by kernel_rfl) (by simp) ?_;refine AllReadyH.cons (o:=⟨none,_,_,_,_,_⟩) rfl (fun K hK=>?_) AllReadyH.nil;go_simp;skip;refine hK.out _ _ ?_ (fun hH=>?_)
         ·(try dsimp only);exact⟨y3,y4⟩
         clear hK K
         try simp only[A5]
         refine wpAnyH_ready (rs:=[7]) (by kernel_rfl) (by simp) ?_;refine AllReadyH.cons (o:=⟨none,_,_,_,_,_⟩) rfl (fun K hK=>?_) AllReadyH.nil;go_simp;skip;refine hK.out _ _ ?_ (fun hH=>?_)
         ·(try dsimp only);exact⟨y5,y6⟩
         clear hK K
         try simp only[A5]
         refine wpAnyH_done (by kernel_rfl) ?_ _;go_wp2
         go_roundw
         case rel =>
          have r1:N9 wb w4.heap.size .u64 ((M.ids.take (k+1)).map (·.1)):=by rw[HT.out,List.map_append];exact HM1.out
          have r2:N9 wb (w4.heap.size+1) .i64 ((M.ids.take (k+1)).map (·.2)):=by rw[HT.out,List.map_append];exact HM2.out
          have r3:T0 (C6 M) [] M.ids=T0 (C6 M) (M.ids.take (k+1)) (M.ids.drop (k+1)):=by rw[hP.out,HD.out,T0,HB.out,HT.out];rfl
          first
           | exact⟨k+1,by omega,by go_num,r1,r2,r3,HE9.out⟩
           | ((repeat apply Exists.intro);exact⟨⟨k+1,by omega,by go_num,r1,r2,r3,HE9.out⟩,rfl⟩)
         case measure=>simp[intOf];omega
  ·obtain rfl:k=M.ids.length:=by omega
   have hc6r:=hq.out.cell_ C64.out;have hgp:B0c wr gp:=hq.out.cell_ (HX4.out.cell_ HP.out);have hT:T0 (C6 M) [] M.ids=true:=by rw[hP.out,List.drop_length];rfl
   have HTT:=Hz hT;clear hT
   cases hcd:A0p M with
   | true =>
    have HCD:=Hz hcd;rw[hcd] at hc6r;clear hcd;go_wp2;go_ret;refine⟨?_,A0.trans_ HX4.out hq.out⟩;unfold A2x;rw[HTT.out,HCD.out];rfl
   | false =>
    have HCD:=Hz hcd;rw[hcd] at hc6r;clear hcd;go_wp2;go_ret;refine⟨?_,A0.trans_ HX4.out hq.out⟩;unfold A2x;rw[HTT.out,HCD.out];rfl
def A3q (M:A7) (gs gp:Addr):Value:=if goodB M then (if A0p M then .nilIface else E0 gp) else E0 gs
theorem D6s (b o:Nat) (M:A7) (S:C8) (gs:Addr) (w:World) (hM:G8 w b o M S) (hS:A0d w gs) (hs:P1 M=false) :
  Calls Zb 90 #[.pointer (some ⟨b,o,none⟩)] w fun e w'=>e=.returned (E0 gs)∧A0 w w':=by
 have HM:=Hz hM;have hltb:=hM.lt;have hltg:=B9 hS;simp only at hltg;clear hM
 go_enter Tryz.func90,Tryz.ntmps90
 go_wp2_with (first
  | (go_at_call 134;refine (B2m _ b o M S ?_).mono ?_;(exact HM.out.ext ((A0.refl w).alloc_ _));rintro e w' ⟨rfl,n,rfl⟩;rw[hs]))
 go_ret;exact⟨rfl,((A0.refl w).alloc_ _).drewN_ _⟩
theorem D6u (b o:Nat) (M:A7) (S:C8) (gb gs gp:Addr) (w:World) (hM:G8 w b o M S) (hG:A1o w gb) (hS:A0d w gs) (hP:B0c w gp) :
  Calls Zb 90 #[.pointer (some ⟨b,o,none⟩)] w fun e w'=>e=.returned (A3q M gs gp)∧A0 w w':=by
 cases hs:P1 M with
 | false =>
  have e:A3q M gs gp=E0 gs:=by unfold A3q goodB;rw[hs];rfl
  rw[e];exact D6s b o M S gs w hM hS hs
 | true =>
  cases h1:M9 M (L3 M) with
  | false =>
   have e:A3q M gs gp=E0 gs:=by unfold A3q goodB;rw[hs,h1];rfl
   rw[e];exact D6t b o M S gb gs gp w hM hG hS hs h1
  | true =>
   cases h2:J6 (C6 M) M.roots with
   | false =>
    have e:A3q M gs gp=E0 gs:=by unfold A3q goodB;rw[hs,h1,h2];rfl
    rw[e];exact D6v b o M S gb gs gp w hM hG hS hP hs h1 h2
   | true =>
    cases h3:J6 (C6 M) M.weak with
    | false =>
     have e:A3q M gs gp=E0 gs:=by unfold A3q goodB;rw[hs,h1,h2,h3];rfl
     rw[e];exact D6w b o M S gb gs gp w hM hG hS hP hs h1 h2 h3
    | true =>
     have h5:=C9r (q:=R2 M (C6 M)) h1
     cases h4:M9 M (R2 M (C6 M)) with
     | false =>
      have e:A3q M gs gp=E0 gs:=by unfold A3q goodB;rw[hs,h1,h2,h3,←h5,h4];rfl
      rw[e];exact D6x b o M S gb gs gp w hM hG hS hP hs h1 h2 h3 h4
     | true =>
      have e:A3q M gs gp=A2x M gs gp:=by
       unfold A3q goodB A2x;rw[hs,h1,h2,h3,←h5,h4];simp
      rw[e];exact D6y b o M S gb gs gp w hM hG hS hP hs h1 h2 h3 h4
def F1 (E:Nat→Addr) (c:Int):Value:=if c=0 then .nilIface else E0 (E (c-1).toNat)
theorem D6z (M:A7) (E:Nat→Addr):A3q M (E 2) (E 4)=F1 E (chk M):=by
 unfold A3q chk F1
 cases goodB M<;>cases A0p M<;>rfl
theorem B5x (b o:Nat) (M:A7) (S:C8) (E:Nat→Addr) (w:World) (hM:G8 w b o M S) (hE:G3 E w) :
  Calls Zb 90 #[.pointer (some ⟨b,o,none⟩)] w fun e w'=>e=.returned (F1 E (chk M))∧A0 w w':=by
 rw[←D6z];exact D6u b o M S (E 1) (E 2) (E 4) w hM hE.bound hE.shape hE.place
theorem B0k (E:Nat→Addr) (c:Int) (h:c≠0):F1 E c=E0 (E (c-1).toNat):=if_neg h
theorem L8 {M:A7} (h:chk M=0):goodB M=true∧A0p M=true:=by
 unfold chk at h
 cases h1:goodB M<;>cases h2:A0p M<;>simp[h1,h2] at h ⊢
theorem K5 {M:A7} (h:goodB M=true):G2 M∧M9 M (L3 M)=true∧J6 (C6 M) M.roots=true∧J6 (C6 M) M.weak=true∧(D8 M).all (R2 M (C6 M))=true∧T0 (C6 M) [] M.ids=true:=by
 simp only[goodB,Bool.and_eq_true] at h;obtain⟨⟨⟨⟨⟨h1,h2⟩,h3⟩,h4⟩,h5⟩,h6⟩:=h;exact⟨A9r h1,h2,h3,h4,h5,h6⟩
theorem A9s:(Zb.info? 78).map (·.size)=some 1:=by kernel_rfl
theorem D1i {P:Program} {t e:TypeId} (ht:P.underlying t=some (.slice e)) (hz:∀ w,(sizeOf e).run P w=.ok 1 w) (g len cap i:Nat) (x:Int) (hx:x=(i:Int)) (hi:i≤len) (hc:len≤cap) :
  ∃ A C,(∀ w':World,(Instr.slice t (.slice (some ⟨g,0,none⟩) len cap) (some (.int .i64 x)) none none).run P w'=.ok (.slice A (len-i) C) w')∧(i<cap→A=some ⟨g,i,none⟩):=by
 have he:P.elem t=e:=by simp[Program.elem,ht]
 have ht':P.underlying t=some (.slice (P.elem t)):=by rw[he];exact ht
 refine⟨if cap=i then some ⟨g,0,none⟩ else some ⟨g,i,none⟩,cap-i,fun w'=>?_,fun h=>by rw[if_neg (by omega)]⟩;subst hx;rw[run_slice_l w' t (some ⟨g,0,none⟩) len cap ht' .i64 (i:Int) (by omega) (by omega),he,hz];simp[Result.andThen,sliced,Addr.add]
 split
 ·rfl
 ·split
  ·rename_i h0;subst h0;simp
  ·rfl
theorem B8r (l fs:List Int) (off:Nat):C5 (splice l off fs)=splice (C5 l) off (C5 fs):=by
 simp[C5,splice,List.map_take,List.map_drop]
section
variable {w5 w6:World} {B b:Nat} {M:A7} {S:C8} {kind size:Int} {g:Nat}
end
theorem B1b:Zb.underlying 103=some (.map 3 3):=by kernel_rfl
theorem B5g:Zb.underlying 22=some (.slice 3):=by kernel_rfl
theorem B6y:(Zb.info? 3).map (fun i=>(i.zero,i.size,i.bytes))=some (some (.int .i64 0),1,8):=by kernel_rfl
structure A7n (C:D9) (j:Nat):Prop where
 shp:G2 C.M
 ok:C.M.Ok
 ten:0≤C.ten∧C.ten≤15
 base:0≤C.base∧C.base≤65536
 top:0≤C.top∧C.top≤65536
 hd:P7 (A6 C.M.W j)=true
 src:(j:Int)+1+B5 (A6 C.M.W j)≤C.M.W.length
 dst:0≤U4 C j∧U4 C j+1+B5 (A6 C.M.W j)≤C.M.W.length
 new:K0 C.mv j=none
 few:C.todo.length≤1000000
theorem B4v {P:Program} {t e:TypeId} (ht:P.underlying t=some (.slice e)) (hz:∀ w,(sizeOf e).run P w=.ok 1 w) (g len cap l n:Nat) (i j:Int) (hi:i=(l:Int)) (hj:j=((l+n:Nat):Int)) (hh:l+n≤cap) :
  ∃ A C,(∀ w':World,(Instr.slice t (.slice (some ⟨g,0,none⟩) len cap) (some (.int .i64 i)) (some (.int .i64 j)) none).run P w'=.ok (.slice A n C) w')∧(0<n→A=some ⟨g,l,none⟩):=by
 have he:P.elem t=e:=by simp[Program.elem,ht]
 have ht':P.underlying t=some (.slice (P.elem t)):=by rw[he];exact ht
 refine⟨if cap=l then some ⟨g,0,none⟩ else some ⟨g,l,none⟩,cap-l,fun w'=>?_,fun h=>by rw[if_neg (by omega)]⟩;subst hi hj;rw[run_slice_lh w' t (some ⟨g,0,none⟩) len cap ht' .i64 .i64 (l:Int) ((l+n:Nat):Int) (by omega) (by omega) (by omega),he,hz];simp[Result.andThen,sliced,Addr.add];refine⟨?_,by omega⟩
 split
 ·rfl
 ·split
  ·rename_i h0;subst h0;simp
  ·rfl
theorem C4s {P:Program} {W:World} (dT ty elem:TypeId) (hu:P.underlying dT=some (.slice elem)) (hsz:(P.info? elem).map (·.size)=some 1) {B:Nat} {a:Option Addr} {c:Nat} {xs:List Value}
  (h:W.ownsRow B elem 1 (.slice a xs.length c) xs.length xs) (h1:∀ v∈xs,v.oneCell'=true) {g:Nat} (ha:a=some ⟨g,0,none⟩) (A1 A2:Option Addr) (C1 C2 d l n:Nat) (hA1:0<n→A1=some ⟨g,d,none⟩) (hA2:0<n→A2=some ⟨g,l,none⟩)
  (hd:d+n≤xs.length) (hl:l+n≤xs.length) :
  ∃ w',(Builtin.copy_ #[dT,dT] ty #[.slice A1 n C1,.slice A2 n C2]).run P W=.ok (goInt n) w'∧But g W w'∧w'.ownsRow B elem 1 (.slice a xs.length c) xs.length (splice xs d ((xs.drop l).take n)):=by
 have hn:((xs.drop l).take n).length=n:=by rw[List.length_take,List.length_drop];omega
 by_cases h0:n=0
 ·subst h0;refine⟨W,?_,⟨rfl,rfl,rfl,rfl,fun _ _=>rfl⟩,by simpa [splice] using h⟩;simpa using run_copy_none (P:=P) W dT dT ty elem A1 A2 0 C1 0 C2 hu hsz rfl
 ·obtain⟨g',hg',-,-,-,hc,cur,hh,hlen,htake⟩:=Q3 h (by omega);rw[ha] at hg';injection hg' with hg';injection hg' with hg';subst hg';have hcl:xs.length≤cur.length:=by omega
  have hrd:∀ k u,((xs.drop l).take n)[k]?=some u→W.cell? ((⟨g,l,none⟩:Addr).add k)=some u:=fun k u hk=>by
   rw[Addr.add_lit,cell_of_row W g _ _ _ _ hh];rw[List.getElem?_take] at hk
   split at hk
   ·rw[List.getElem?_drop,←htake,List.getElem?_take] at hk
    split at hk
    ·simpa using hk
    ·cases hk
   ·cases hk
  obtain⟨w',hr,hg2,hb⟩:=C2n (P:=P) (w:=W) dT dT ty elem hu hsz A1 A2 n C1 n C2 g d cur elem hh ((xs.drop l).take n) (by rw[hn];exact (Nat.min_self n).symm)
   (fun _=>⟨hA1 (by omega),_,hA2 (by omega),hrd⟩) (by rw[hn];omega) (fun v hv=>h1 v (List.mem_of_mem_drop (List.mem_of_mem_take hv)))
  rw[hn] at hr;exact⟨w',hr,hb,B4p h ha hh d _ (by rw[hn];exact hd) hg2⟩
theorem E6w (B b:Nat) (C:D9) (S:C8) (X:Pl) (j:Nat) (w:World) (hO:G7 w B b C S X) (hc:A7n C j) (hage:¬C.ten≤F4 (A6 C.M.W j)) :
  Calls Zb 144 #[.pointer (some ⟨X.c,0,none⟩),.int .i64 (j:Int)] w fun e w'=>e=.returned (.int .i64 (U4 C j))∧A3e w B b S X (L6 C j) w':=by
 have hto:U4 C j=C.base+C.top:=by unfold U4;rw[if_neg hage]
 obtain⟨hs,hok,⟨t0,t1⟩,⟨b0,b1⟩,⟨p0,p1⟩,hd,hsrc,⟨d0,d1⟩,hnew,hfew⟩:=hc;rw[hto] at d0 d1 ⊢;obtain⟨d,hd2⟩:∃ d:Nat,C.base+C.top=(d:Int):=⟨(C.base+C.top).toNat,by omega⟩;rw[hd2] at d0 d1 ⊢;obtain⟨x,hx⟩:∃ x,x=A6 C.M.W j:=⟨_,rfl⟩;rw[←hx] at hage hd hsrc d1;have hxr:=O6 hok j;rw[←hx] at hxr;obtain⟨k0,k1,a0,a1,m0,m1,z0⟩:=Z9 x hxr.1;have z1:B5 x≤4096:=((A1v x).1 hd).2.2;have hM:=hO.mem.mem hok;have hjl:j<C.M.W.length:=by omega
 obtain⟨g,hg,hgB,hgl,hgf,hgc,cur,hgh,hcl,-⟩:=Q3 hO.mem.fW (by omega);have c3:=hM.W;simp only[Nat.zero_add] at c3;rw[hg] at c3;have hcell:w.cell? ⟨g,j,none⟩=some (.int .u64 x):=by
  have:=hM.rW;rw[hg] at this;rw[hx];simpa [A6] using this.at_ (K2 C.M.W j hjl)
 have f0:=hO.f0;have f1:=hO.f1;have f2:=hO.f2;have f3:=hO.f3;have hcz:=hO.clt;have hfz:=hO.frozen 3;have hltz:(j:Int)<(C.M.W.length:Int):=by omega
 have hwl:=hok.lenW;have e1:IntKind.i64.wrap (1+B5 x)=1+B5 x:=Za _ (by omega);have e2:IntKind.i64.wrap (C.base+C.top)=(d:Int):=by rw[Za _ (by omega)];exact hd2
 have HD2:=Hz hd2;have HTO:=Hz hto;have e3:IntKind.i64.wrap (C.top+(1+B5 x))=C.top+(1+B5 x):=Za _ (by omega);have e4:IntKind.i64.wrap (F4 x+1)=F4 x+1:=Za _ (by omega);obtain⟨A,hA⟩:∃ A,(if F4 x+1<15 then F4 x+1 else 15)=A:=⟨_,rfl⟩;have HO:=Hz hO;have HD:=Hz hd;have HXR:=Hz hxr;have HOK:=Hz hok;have HS:=Hz hs;have HG:=Hz hg;have HX:=Hz hx;have HN:=Hz hnew;have HM:=Hz hM;have HFEW:=Hz hfew;have HGC:=Hz hgc;clear hM hO hs hok hg hnew hd hxr hgh hgf hx hto hfew hcl hgc hd2
 go_enter Tryz.func144,Tryz.ntmps144
 go_wp2_with (go_at_call 56;refine (A3d x HXR.out.1 HXR.out.2 HD.out _).mono ?_;rintro e w1 ⟨rfl,hq⟩;have HX1:=Hz hq;have hz1:w.heap.size≤w1.heap.size:=Below.size hq;clear hq)
 refine P4 (fun W2 hW2=>?_);obtain⟨H,hH⟩:∃ H,H=w1.heap.size:=⟨_,rfl⟩;rw[←hH] at hz1 ⊢;have hE2:A0 w W2:=by rw[hW2];exact HX1.out.alloc_ _
 have hHz:H<W2.heap.size:=by rw[hW2,hH];simp
 have q0:W2.cell? ⟨H,0,none⟩=some (.int .i64 (B3 x)):=by rw[hW2,hH];simp[go_sem]
 have q1:W2.cell? ⟨H,1,none⟩=some (.int .i64 (F4 x)):=by rw[hW2,hH];simp[go_sem]
 have q2:W2.cell? ⟨H,2,none⟩=some (.int .i64 (G5 x)):=by rw[hW2,hH];simp[go_sem]
 have q3:W2.cell? ⟨H,3,none⟩=some (.int .i64 (B5 x)):=by rw[hW2,hH];simp[go_sem]
 have qf:W2.frozen? ⟨H,1,none⟩=false:=by rw[hW2,hH];simp[go_sem]
 have HO2:=Hz (HO.out.ext hE2);have HE2:=Hz hE2
 replace f0:=HO2.out.f0
 replace f1:=HO2.out.f1
 replace f2:=HO2.out.f2
 replace f3:=HO2.out.f3
 replace hfz:=HO2.out.frozen 3
 have hcz2:=HO2.out.clt;have hne:X.c≠H:=by omega
 have hne':H≠X.c:=by omega
 clear hW2 hE2 hcell c3 hH;go_region;go_wp2;go_region;go_wp2;refine P4 (fun W3 hW3=>?_);have hO3:G7 W3 B b {C with top:=C.top+(1+B5 x)} S X:=by
  rw[hW3];refine G7.kept (HO2.out.setTop _) fun k hk=>?_
  have:=HO.out.ownC_size hk;exact heap_setCell_other _ ⟨H,1,none⟩ k _ (by simp only;omega)
 have hK3:A8 (Z3 b S X) w W3:=by
  rw[hW3];exact ((((A8.of_ext HE2.out).set_ (p:=⟨X.c,3,none⟩) (Or.inl (Or.inr (Or.inl rfl))) _).set_ (p:=⟨H,1,none⟩) (Or.inr hz1) _).drew_).drew_
 have r0:W3.cell? ⟨H,0,none⟩=some (.int .i64 (B3 x)):=by rw[hW3];simp[go_sem,hne,q0]
 have r1:W3.cell? ⟨H,1,none⟩=some (.int .i64 A):=by rw[hW3];simp[go_sem,hne,q1]
 have r2:W3.cell? ⟨H,2,none⟩=some (.int .i64 (G5 x)):=by rw[hW3];simp[go_sem,hne,q2]
 have r3:W3.cell? ⟨H,3,none⟩=some (.int .i64 (B5 x)):=by rw[hW3];simp[go_sem,hne,q3]
 have hz3:H<W3.heap.size:=B9 r0;have HO3:=Hz hO3;have HK3:=Hz hK3;clear hW3 hO3 hK3 q0 q1 q2 q3 qf f0 f1 f2 f3 hfz hcz2 hHz;have hgc:=HGC.out;obtain⟨n,hn⟩:∃ n:Nat,B5 x=(n:Int):=⟨(B5 x).toNat,by omega⟩;obtain⟨A1,C1,hs1,hA1⟩:=B4v (P:=Zb) A0c A3w g C.M.W.length S.W.2 (d+1) n ((d:Int)+1) ((d:Int)+(1+B5 x)) (by omega) (by omega) (by omega);obtain⟨A2,C2,hs2,hA2⟩:=B4v (P:=Zb) A0c A3w g C.M.W.length S.W.2 (j+1) n ((j:Int)+1) ((j:Int)+(1+B5 x)) (by omega) (by omega) (by omega);have e5:IntKind.i64.wrap ((d:Int)+1)=(d:Int)+1:=Za _ (by omega);have e6:IntKind.i64.wrap ((d:Int)+(1+B5 x))=(d:Int)+(1+B5 x):=Za _ (by omega);have e7:IntKind.i64.wrap ((j:Int)+1)=(j:Int)+1:=Za _ (by omega);have e8:IntKind.i64.wrap ((j:Int)+(1+B5 x))=(j:Int)+(1+B5 x):=Za _ (by omega);have hwc:(C5 C.M.W).length=C.M.W.length:=by simp[C5]
 have hrow:W3.drew.ownsRow B 78 1 (.slice S.W.1 (C5 C.M.W).length S.W.2) (C5 C.M.W).length (C5 C.M.W):=by rw[hwc];exact HO3.out.mem.fW
 obtain⟨w4,hrun,hb4,ho4⟩:=C4s (P:=Zb) (W:=W3.drew) 76 3 78 A0c A9s hrow (A6r _) HG.out A1 A2 C1 C2 (d+1) (j+1) n hA1 hA2 (by omega) (by omega);rw[hwc] at ho4;have f0:=HO3.out.f0;have c3:=(HO3.out.mem.mem HOK.out).W;simp only[Nat.zero_add] at c3;rw[HG.out] at c3;have HB4:=Hz hb4;have HO4:=Hz ho4;have HN2:=Hz hn;clear hb4 ho4 hrow hn hgc hwc hA1 hA2;go_region;go_wp2;have hn:=HN2.out;have hcw:C.M.W.length=(splice C.M.W (d+1) ((C.M.W.drop (j+1)).take n)).length:=by rw[length_splice];rw[List.length_take,List.length_drop];omega
 have hO4:G7 w4 B b {C with M:={C.M with W:=splice C.M.W (d+1) ((C.M.W.drop (j+1)).take n)},top:=C.top+(1+B5 x)} S X:=by
  refine G7.onMem (C:={C with top:=C.top+(1+B5 x)}) (HO3.out.ext (A0.refl _).drew_) (B7.rowW (OM.ext HO3.out.mem (A0.refl _).drew_) HG.out HB4.out _ hcw.symm ?_) ((A8.of_but HB4.out).sub fun k hk=>?_)
  ·rw[B8r,show C5 ((C.M.W.drop (j+1)).take n)=((C5 C.M.W).drop (j+1)).take n by simp[C5,List.map_take,List.map_drop]];exact HO4.out
  ·subst hk;exact Or.inr (Or.inl HG.out)
 have hK4:A8 (Z3 b S X) w w4:=(HK3.out.drew_).trans ((A8.of_but HB4.out).sub fun k hk=>by subst hk;exact Or.inl (Or.inr (Or.inl HG.out)));have hgH:∀ k,k=H→¬k=g:=fun k hk e=>by omega
 have v0:w4.cell? ⟨H,0,none⟩=some (.int .i64 (B3 x)):=(A8.of_but HB4.out).cell (p:=⟨H,0,none⟩) (hgH H rfl) r0;have v1:w4.cell? ⟨H,1,none⟩=some (.int .i64 A):=(A8.of_but HB4.out).cell (p:=⟨H,1,none⟩) (hgH H rfl) r1;have v2:w4.cell? ⟨H,2,none⟩=some (.int .i64 (G5 x)):=(A8.of_but HB4.out).cell (p:=⟨H,2,none⟩) (hgH H rfl) r2;have v3:w4.cell? ⟨H,3,none⟩=some (.int .i64 (B5 x)):=(A8.of_but HB4.out).cell (p:=⟨H,3,none⟩) (hgH H rfl) r3;generalize hM4:splice C.M.W (d+1) ((C.M.W.drop (j+1)).take n)=W4 at *
 obtain⟨g4,hg4,-,hgl4,hgf4,-,cur4,hgh4,hcl4,-⟩:=Q3 hO4.mem.fW (show 0<W4.length by omega)
 try simp only at hg4
 obtain rfl:g4=g:=by rw[HG.out] at hg4;injection hg4 with hg4;injection hg4 with hg4;exact hg4.symm
 have f0':=hO4.f0;have c3':=(hO4.mem.fld ⟨3,78,1,S.W.1,W4.length,S.W.2,C5 W4⟩ (by simp[F3])).1;simp only[I6.val,hg4,←hcw] at c3';have u3:w4.cell? ⟨g4,d,none⟩=some (.int .u64 (W4.getD d 0)):=by
  have:=(R4 hO4.mem.fW).1;simp only[hg4] at this;simpa using this.at_ (K2 W4 d (by omega))
 have uf:=hgf4 d;have hxg:X.c≠g4:=fun e=>HO.out.cN (e ▸ Or.inr (Or.inl HG.out))
 have hbg:g4≠b:=HO.out.mem.notW HG.out;have a2:0≤A∧A≤15:=by rw[←hA];split<;>omega
 have HA:Hid (min 15 (F4 x+1)=A):=by unfold Hid;rw[←hA];split<;>omega
 have HAGE:Hid (¬C.ten≤F4 x):=by unfold Hid;omega
 have hdl:(d:Int)<(C.M.W.length:Int):=by omega
 have HO4':=Hz hO4;have HK4:=Hz hK4;have HW4:=Hz hM4;have HCW:=Hz hcw;clear hn hM4 hO4 hK4 hcw hgf4 hgh4 hcl4 f0 c3 r0 r1 r2 r3 hg4 hrun hs1 hs2 hA;refine wp_region_held_drew (S:=fun W=>W.cell? ⟨X.c,0,none⟩=some (.pointer (some ⟨b,0,none⟩))∧W.cell? ⟨b,3,none⟩=some (.slice (some ⟨g4,0,none⟩) C.M.W.length S.W.2)∧W.cell? ⟨H,0,none⟩=some (.int .i64 (B3 x))∧W.cell? ⟨H,1,none⟩=some (.int .i64 A)∧W.cell? ⟨H,2,none⟩=some (.int .i64 (G5 x))∧W.cell? ⟨H,3,none⟩=some (.int .i64 (B5 x))) (by kernel_rfl) ?_ (fun hH=>?_)
 ·exact⟨f0',c3',v0,v1,v2,v3⟩
 refine tJ 0 110 rfl ?_
 try simp only[A5]
 refine tJ 1 111 rfl ?_
 try simp only[A5]
 refine tJ 2 112 rfl ?_
 try simp only[A5]
 refine tJ 3 113 rfl ?_
 try simp only[A5]
 refine tJ 4 114 rfl ?_
 try simp only[A5]
 refine tJ 5 115 rfl ?_
 try simp only[A5]
 refine tJ 6 116 rfl ?_
 try simp only[A5]
 refine tJ 7 117 rfl ?_
 try simp only[A5]
 refine tJ 8 118 rfl ?_
 try simp only[A5]
 refine wpAnyH_ready (rs:=[9]) (by kernel_rfl) (by simp) ?_;refine AllReadyH.cons (o:=⟨some 119,_,_,_,_,_⟩) rfl (fun K hK=>?_) AllReadyH.nil;go_simp;refine (B1u (B3 x) A (G5 x) (B5 x) ⟨k0,k1⟩ a2 ⟨m0,m1⟩ ⟨z0,z1⟩ _).mono ?_;rintro e w5 ⟨rfl,hq⟩;have HX5:Hid (A0 w4 w5):=A0.trans_ (by first|exact A0.refl _|exact (A0.refl _).drew_|exact (A0.refl _).drewN_ _) hq;clear hq;have gc:=HX5.out.cell_ u3;have gf:w5.frozen? ⟨g4,d,none⟩=false:=by rw[HX5.out.three.2.1 _ _ hgl4];exact uf
 have hS5:=And.intro (HX5.out.cell_ f0') (And.intro (HX5.out.cell_ c3') (And.intro (HX5.out.cell_ v0) (And.intro (HX5.out.cell_ v1) (And.intro (HX5.out.cell_ v2) (HX5.out.cell_ v3)))));refine hK.out _ _ ?_ (fun hH=>?_)
 ·(try dsimp only);exact hS5
 clear hK K
 try simp only[A5]
 refine tJ 10 120 rfl ?_
 try simp only[A5]
 refine wpAnyH_ready (rs:=[11]) (by kernel_rfl) (by simp) ?_;refine AllReadyH.cons (o:=⟨none,_,_,_,_,_⟩) rfl (fun K hK=>?_) AllReadyH.nil;go_simp;skip;refine hK.out _ _ ?_ (fun hH=>?_)
 ·(try dsimp only);(refine⟨?_,?_,?_,?_,?_,?_⟩<;>rw[World.cell?_setCell_far _ _ _ _ (by simp only;omega)])
  ·exact HX5.out.cell_ f0'
  ·exact HX5.out.cell_ c3'
  ·exact HX5.out.cell_ v0
  ·exact HX5.out.cell_ v1
  ·exact HX5.out.cell_ v2
  ·exact HX5.out.cell_ v3
 clear hK K
 try simp only[A5]
 refine wpAnyH_done (by kernel_rfl) ?_ _;clear hH hS5 f0' c3' v1 v2 v3;generalize hW6':w5.setCell ⟨g4,d,none⟩ (Value.int .u64 (J7 (B3 x) A (G5 x) (B5 x)))=W6;have hW6:=hW6'.symm;clear hW6';have hO6:G7 W6 B b {C with M:={C.M with W:=W4.set d (J7 (B3 x) A (G5 x) (B5 x))},top:=C.top+(1+B5 x)} S X:=by
  rw[hW6];exact G7.onMem (C:={C with M:={C.M with W:=W4},top:=C.top+(1+B5 x)}) (HO4'.out.ext HX5.out) (B7.setW (OM.ext HO4'.out.mem HX5.out) HG.out d (by show d<W4.length;have:=HCW.out;omega) _) (A8.set_ (A8.refl _ _) (p:=⟨g4,d,none⟩) (Or.inl (Or.inr (Or.inl HG.out))) _)
 have hK6:A8 (Z3 b S X) w W6:=by
  rw[hW6];exact (HK4.out.ext_ HX5.out).set_ (p:=⟨g4,d,none⟩) (Or.inl (Or.inl (Or.inr (Or.inl HG.out)))) _
 have t6:W6.cell? ⟨H,0,none⟩=some (.int .i64 (B3 x)):=by
  rw[hW6,World.cell?_setCell_far _ _ _ _ (by simp only;omega)];exact HX5.out.cell_ v0
 clear hW6 v0 gc gf u3 uf;have HNEW:Hid (K0 C.mv (j:Int)=none):=HN.out;obtain⟨w7,hrun7,hm7,hb7⟩:=B2l (P:=Zb) B1b A8r hO6.map (j:Int) (.int .i64 (d:Int));have hO7:=G7.put hO6 (j:Int) (d:Int) HNEW.out hm7 hb7;have hK7:A8 (Z3 b S X) w w7:=hK6.trans ((A8.of_but hb7).sub fun k hk=>by subst hk;exact Or.inr (Or.inr (Or.inl rfl)));have hHmb:¬H=X.mb:=fun e=>by have:=HO.out.map.lt;omega
 have t7:w7.cell? ⟨H,0,none⟩=some (.int .i64 (B3 x)):=(A8.of_but hb7).cell (p:=⟨H,0,none⟩) hHmb t6;have f0:=hO6.f0;have f4:=hO6.f4;have HO7:=Hz hO7;have HK7:=Hz hK7;clear hO6 hK6 hm7 hb7 hO7 hK7 t6;have HFIN:Hid (∀ td,{C with M:={C.M with W:=W4.set d (J7 (B3 x) A (G5 x) (B5 x))},top:=C.top+(1+B5 x),mv:=C.mv++[((j:Int),(d:Int))],todo:=td}={L6 C j with todo:=td}):=fun td=>by
  have hx:=HX.out;have hage':¬C.ten≤F4 (A6 C.M.W j):=by rw[←hx];exact HAGE.out
  have hto:U4 C j=(d:Int):=by rw[HTO.out,HD2.out]
  have hn:(B5 x).toNat=n:=by rw[HN2.out];rfl
  simp only[L6,B4j,hto,if_neg hage',←hx,Int.toNat_natCast,HA.out,hn,HW4.out];simp only[if_neg HAGE.out]
 cases hr:D2 (B3 x) with
 | true =>
  have HR:=Hz hr;clear hr
  go_wp2_with (go_at_call 89;refine (A3l _ _).mono ?_;rintro e w' ⟨he,rfl⟩;rw[HR.out] at he;subst he)
  go_ret;refine⟨rfl,X,rfl,rfl,?_,HK7.out,fun k hk=>Or.inl hk⟩;have e:L6 C j={L6 C j with todo:=C.todo}:=by
   simp only[L6,←HX.out,HR.out,if_true]
  rw[e,←HFIN.out];exact HO7.out
 | false =>
  have HR:=Hz hr;obtain⟨i0,hi,hz0,hz1,hz2⟩:=info_parts B6y;have hfew:=HFEW.out;have htl:(K6 C.todo).length=C.todo.length:=by simp[K6]
  obtain⟨v9,w9,hrun9,ht9,hg9,hv9⟩:=B2k (P:=Zb) (w:=w7.alloc (.cells #[.int .i64 (d:Int)] 3)) 22 22 B 3 i0 (.int .i64 0) 8 B5g hi hz0 hz1 hz2 rfl X.tv (K6 C.todo) (HO7.out.td.ext ((A0.refl _).alloc_ _)) ⟨w7.heap.size,0,none⟩ 1 (.int .i64 (d:Int)) (by simp[go_sem]) rfl (by rw[htl];unfold maxLen;omega) (by rw[htl];omega) (by have:=HO7.out.cB;have:=HO7.out.clt;simp;omega);obtain⟨a9,n9,c9,rfl⟩:=ht9.slice;have hK9:A8 (fun k=>X.tv.ownBlock=some k) w7 w9:=((A8.refl _ w7).alloc_ _).trans (A8.of_grown hg9 fun k hk=>Or.inl hk);have hcT:¬X.tv.ownBlock=some X.c:=fun e=>(HO7.out.tN _ e).2.1 rfl
  have y5:w9.cell? ⟨X.c,5,none⟩=some X.tv:=hK9.cell (p:=⟨X.c,5,none⟩) hcT HO7.out.f5;have yf:w9.frozen? ⟨X.c,5,none⟩=false:=by rw[hK9.frozen (p:=⟨X.c,5,none⟩) hcT HO7.out.clt];exact HO7.out.frozen 5
  have hv9':∀ k,(Value.slice a9 n9 c9).ownBlock=some k→X.tv.ownBlock=some k∨w7.heap.size≤k:=fun k hk=>by
   rcases hv9 k hk with q|q
   ·exact Or.inl q
   ·exact Or.inr (by simp at q;omega)
  have hO9:=G7.work HO7.out hK9 _ (C.todo++[(d:Int)]) (by simpa [K6] using ht9) hv9';have z5:=HO7.out.f5;have z7:=HO7.out.clt;obtain⟨ta,tn,tc,htv⟩:=HO7.out.td.slice;have HTV:=Hz htv;rw[htv] at hrun9 z5 y5;have HRUN:=Hz hrun9;clear htv hrun9;have HO9:=Hz hO9;have HK9:=Hz hK9;have HV9:=Hz hv9';clear hr hfew htl ht9 hg9 hv9 hK9 hcT hv9' hO9 hz0 hz1 hz2 hi
  go_wp2_with (first
   | (go_at_call 89;refine (A3l _ _).mono ?_;rintro e w' ⟨he,rfl⟩;rw[HR.out] at he;subst he)
   | (at_builtin;refine B5j rfl _ _ 22 rfl (.slice ta tn tc) _ rfl rfl HRUN.out ?_))
  go_ret;refine⟨rfl,{X with tv:=.slice a9 n9 c9},rfl,rfl,?_,?_,fun k hk=>?_⟩
  ·have e:L6 C j={L6 C j with todo:=C.todo++[(d:Int)]}:=by
    have hto:U4 C j=(d:Int):=by rw[HTO.out,HD2.out]
    simp only[L6,←HX.out,HR.out,hto];rfl
   rw[e,←HFIN.out];exact HO9.out
  ·exact ((HK7.out.trans (HK9.out.sub fun k hk=>Or.inr (Or.inr (Or.inr hk)))).set_ (p:=⟨X.c,5,none⟩) (Or.inl (Or.inr (Or.inl rfl))) _)
  ·rcases hk with hk|hk|hk|hk
   ·exact Or.inl (Or.inl hk)
   ·exact Or.inl (Or.inr (Or.inl hk))
   ·exact Or.inl (Or.inr (Or.inr (Or.inl hk)))
   ·rcases HV9.out k hk with q|q
    ·exact Or.inl (Or.inr (Or.inr (Or.inr q)))
    ·exact Or.inr (Nat.le_trans HK7.out.size q)
end Go.Proofs.YtelhoppfidibiaaGreatDoor
