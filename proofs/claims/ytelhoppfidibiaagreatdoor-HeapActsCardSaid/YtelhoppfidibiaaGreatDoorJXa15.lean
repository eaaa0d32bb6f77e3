/- An own memory: more is appended to one of its rows, and the field is stored anew. -/
import Derived.Test.YtelhoppfidibiaaGreatDoorJXa14
import Derived.Lib.LazyBuf
set_option linter.unusedSimpArgs false
set_option linter.unusedVariables false
set_option maxHeartbeats 8000000
set_option maxRecDepth 100000
namespace Go.Proofs.YtelhoppfidibiaaGreatDoor
open Go.RowKit
open List renaming eq_nil_of_length_eq_zero→Za,getD_eq_getElem?_getD→Zb,getElem?_eq_getElem→Zc,length_take→Zd,map_append→Ze,map_cons→Zf,mem_append→Zg,mem_cons→Zh,mem_map_of_mem→Zi,nodup_append→Zj,not_mem_nil→Zk,pairwise_append→Zl,pairwise_cons→Zm
open Nat renaming le_of_eq→Zn,le_refl→Zo
open Go.Proofs.Tryz renaming prog→Zp
open World renaming cell?_setCell_far→Zq,ownsRow_nil→Zr
theorem OM.push {w w1:World} {B b:Nat} {nums:List (Nat × Int)} {L1 L2:List I6} {f:I6} (h:OM w B b nums (L1++f::L2)) (a':Option Addr) (n' c':Nat) (cs':List Value)
  (hg:w.grownBy w1 f.val.ownBlock) (ho:w1.ownsRow B f.e f.size (.slice a' n' c') n' cs') (hnew:(Value.slice a' n' c').ownBlock=f.val.ownBlock∨(Value.slice a' n' c').ownBlock=some w.heap.size) :
  OM (w1.setCell ⟨b,f.off,none⟩ (.slice a' n' c')) B b nums (L1++⟨f.off,f.e,f.size,a',n',c',cs'⟩::L2):=by
 have hlt:=h.lt;have hap:=h.apart;have hfb:=(h.fld f (by simp)).2.2;have hother:∀ g∈L1++L2,∀ k,g.val.ownBlock=some k→f.val.ownBlock≠some k:=fun g hgm k hk e=>by
  rw[Zl,Zm] at hap;rcases Zg.1 hgm with q|q
  ·exact hap.2.2 g q f (by simp) k hk e
  ·exact hap.2.1.1 g q k e hk
 have hbk:w1.heap[b]?=w.heap[b]?:=hg.block b hlt (fun e=>hfb e.symm);have hnb:(Value.slice a' n' c').ownBlock≠some b:=by
  rcases hnew with e|e
  ·rw[e];exact hfb
  ·rw[e];simp;omega
 have hold:∀ g∈L1++L2,∀ k,g.val.ownBlock=some k→(Value.slice a' n' c').ownBlock≠some k:=fun g hgm k hk=>by
  have h1:g∈L1++f::L2:=by rcases Zg.1 hgm with q|q<;>simp[q]
  have:=((h.fld g h1).2.1.lt k hk).2;rcases hnew with e|e
  ·rw[e];exact hother g hgm k hk
  ·rw[e];simp;omega
 have hrow:∀ g∈L1++L2,w1.ownsRow B g.e g.size g.val g.n g.cs:=fun g hgm=>by
  have h1:g∈L1++f::L2:=by rcases Zg.1 hgm with q|q<;>simp[q]
  refine (h.fld g h1).2.1.kept hg ?_;rcases hv:g.val.ownBlock with _|k
  ·exact Or.inl rfl
  ·exact Or.inr fun e=>hother g hgm k hv e.symm
 have hoffs:=h.offs;have hfoff:∀ p∈nums,p.1≠f.off:=fun p hp e=>by
  rw[Zj] at hoffs;exact hoffs.2.2 p.1 (Zi hp) f.off (Zi (by simp)) e
 have hgoff:∀ g∈L1++L2,g.off≠f.off:=fun g hgm e=>by
  have:=(Zj.1 hoffs).2.1;simp only[Ze,Zf] at this;rw[Zj,List.nodup_cons] at this;rcases Zg.1 hgm with q|q
  ·exact this.2.2 g.off (Zi q) f.off (by simp) e
  ·exact this.2.1.1 (by rw[←e];exact Zi q)
 have hcell:∀ j v,w.cell? ⟨b,j,none⟩=some v→w1.cell? ⟨b,j,none⟩=some v:=fun j v hc=>by
  rw[World.cell?_of_block (w:=w) (a:=⟨b,j,none⟩) hbk];exact hc
 have hblk:∃ cur t,w1.heap[b]?=some (.cells cur t (0,0)):=by rw[hbk];exact h.blk
 have hgood:∀ g∈L1++L2,(w1.setCell ⟨b,f.off,none⟩ (.slice a' n' c')).cell? ⟨b,g.off,none⟩=some g.val∧(w1.setCell ⟨b,f.off,none⟩ (.slice a' n' c')).ownsRow B g.e g.size g.val g.n g.cs∧g.val.ownBlock≠some b:=fun g hgm=>by
  have h1:g∈L1++f::L2:=by rcases Zg.1 hgm with q|q<;>simp[q]
  refine⟨?_,A4i (hrow g hgm) (h.fld g h1).2.2 _,(h.fld g h1).2.2⟩;rw[J4 (hgoff g hgm).symm];exact hcell _ _ (h.fld g h1).1
 refine⟨h.hb,A3g hblk,fun p hp=>?_,fun g hgm=>?_,?_,?_⟩
 ·rw[J4 (hfoff p hp).symm];exact hcell _ _ (h.num p hp)
 ·rcases Zg.1 hgm with q|q
  ·exact hgood g (List.mem_append_left _ q)
  ·rcases Zh.1 q with rfl|q
   ·exact⟨A1c (hcell _ _ (h.fld f (by simp)).1),A4i ho hnb _,hnb⟩
   ·exact hgood g (List.mem_append_right _ q)
 ·rw[Zl,Zm] at hap ⊢;obtain⟨p1,⟨p2,p3⟩,p4⟩:=hap;refine⟨p1,⟨fun g hgm k hk e=>?_,p3⟩,fun g hg1 g' hg' k hk=>?_⟩
  ·exact hold g (by simp[hgm]) k e hk
  ·rcases Zh.1 hg' with rfl|hg'
   ·exact hold g (by simp[hg1]) k hk
   ·exact p4 g hg1 g' (by simp[hg']) k hk
 ·simpa using hoffs
structure F9g (M:A7):Prop where
 W:M.W.length≤1000
 R:M.roots.length≤100
 K:M.weak.length≤100
 I:M.ids.length≤100
 C:M.cards.length≤1000
theorem B6z:(Zp.info? 140).map (fun i=>(i.zero,i.size,i.bytes))=some (some (.agg #[.int .u64 0,.int .i64 0]),2,16):=by kernel_rfl
theorem B1a:Zp.underlying 80=some (.slice 140):=by kernel_rfl
def B9a (w:World) (e:TypeId) (size:Nat) (m:Nat) (news:List Value) (en:Ending) (w':World):Prop :=
 ∃ a c,en=.returned (.slice a m c)∧w'.ownsRow w.heap.size e size (.slice a m c) m news∧A0 w w'
theorem C2d (W:World) (e:TypeId) (size:Nat):(W.alloc (.cells #[] e)).ownsRow W.heap.size e size (.slice (some ⟨W.heap.size,0,none⟩) 0 0) 0 [] :=
 ⟨by simp,Or.inr ⟨W.heap.size,0,#[],rfl,Zo _,heap_alloc_new W _,Zo _,by unfold maxLen;omega,by simp,by simp⟩⟩
theorem B5y (ad:Option Addr) (m c:Nat) (news:List Value) (w:World) (hnil:ad=none→c=0) (hmc:m≤c) (hl:news.length=m*1) (hR:F7 w ad news) (h1:∀ u∈news,u.oneCell'=true) (hm:m≤1000000) :
  Calls Zp 105 #[.slice ad m c] w (B9a w 78 1 m news):=by
 obtain⟨i0,hi,hz0,hz1,hz2⟩:=info_parts C0w
 cases ad with
 | none =>
  obtain rfl:=hnil rfl;obtain rfl:m=0:=by omega
  obtain rfl:news=[]:=Za (by omega);have q:∀ W,(binOp .eql 76 (.slice none 0 0) (.slice none 0 0)).run Zp W=.ok (.bool true) W:=fun W=>_root_.Go.run_eql_slice_nil W _ _ none 0 0 B2r
  go_enter Tryz.func105,Tryz.ntmps105
  go_wp2;go_ret;exact⟨none,0,rfl,Zr _ _ _ _,A0.refl w⟩
 | some p =>
  have HR:=Hz hR;have H1:=Hz h1;clear hR h1 hnil;have q:∀ W,(binOp .eql 76 (.slice (some p) m c) (.slice none 0 0)).run Zp W=.ok (.bool false) W:=fun W=>_root_.Go.run_eql_slice_nil W _ _ (some p) m c B2r
  go_enter Tryz.func105,Tryz.ntmps105
  go_wp2_with (at_builtin;refine A5e rfl _ _ 76 rfl w.heap.size 78 i0 (.int .u64 0) 1 8 B2r hi hz0 hz1 hz2 rfl (by decide) _ 0 [] rfl (C2d w _ _) (some p) m c news rfl (fun h=>by cases h) hmc hl (HR.out.ext ((A0.refl w).alloc_ _)) H1.out (by unfold maxLen;omega) (by omega) (by simp) ?_)
  intro a2 c2 w2 hown hgrow hat
  have hx:A0 w w2:=Below.grown ((A0.refl w).alloc_ _) hgrow (by simp) (fun g hg=>Zn (Option.some.inj (show some w.heap.size=some g from hg)));have HX:=Hz hx;have HO:=Hz hown;clear hown hgrow hat hx;go_wp2;go_ret;exact⟨a2,c2,rfl,HO.out,HX.out⟩
theorem D7d (ad:Option Addr) (m c:Nat) (news:List Value) (w:World) (hnil:ad=none→c=0) (hmc:m≤c) (hl:news.length=m*2) (hR:F7 w ad news) (h1:∀ u∈news,u.oneCell'=true) (hm:m≤1000000) :
  Calls Zp 126 #[.slice ad m c] w (B9a w 140 2 m news):=by
 obtain⟨i0,hi,hz0,hz1,hz2⟩:=info_parts B6z
 cases ad with
 | none =>
  obtain rfl:=hnil rfl;obtain rfl:m=0:=by omega
  obtain rfl:news=[]:=Za (by omega);have q:∀ W,(binOp .eql 80 (.slice none 0 0) (.slice none 0 0)).run Zp W=.ok (.bool true) W:=fun W=>_root_.Go.run_eql_slice_nil W _ _ none 0 0 B1a
  go_enter Tryz.func126,Tryz.ntmps126
  go_wp2;go_ret;exact⟨none,0,rfl,Zr _ _ _ _,A0.refl w⟩
 | some p =>
  have HR:=Hz hR;have H1:=Hz h1;clear hR h1 hnil;have q:∀ W,(binOp .eql 80 (.slice (some p) m c) (.slice none 0 0)).run Zp W=.ok (.bool false) W:=fun W=>_root_.Go.run_eql_slice_nil W _ _ (some p) m c B1a
  go_enter Tryz.func126,Tryz.ntmps126
  go_wp2_with (at_builtin;refine A5e rfl _ _ 80 rfl w.heap.size 140 i0 (.agg #[.int .u64 0,.int .i64 0]) 2 16 B1a hi hz0 hz1 hz2 rfl (by decide) _ 0 [] rfl (C2d w _ _) (some p) m c news rfl (fun h=>by cases h) hmc hl (HR.out.ext ((A0.refl w).alloc_ _)) H1.out (by unfold maxLen;omega) (by omega) (by simp) ?_)
  intro a2 c2 w2 hown hgrow hat
  have hx:A0 w w2:=Below.grown ((A0.refl w).alloc_ _) hgrow (by simp) (fun g hg=>Zn (Option.some.inj (show some w.heap.size=some g from hg)));have HX:=Hz hx;have HO:=Hz hown;clear hown hgrow hat hx;go_wp2;go_ret;exact⟨a2,c2,rfl,HO.out,HX.out⟩
theorem D7c (ad:Option Addr) (m c:Nat) (news:List Value) (w:World) (hnil:ad=none→c=0) (hmc:m≤c) (hl:news.length=m*1) (hR:F7 w ad news) (h1:∀ u∈news,u.oneCell'=true) (hm:m≤1000000) :
  Calls Zp 127 #[.slice ad m c] w (B9a w 4 1 m news):=by
 obtain⟨i0,hi,hz0,hz1,hz2⟩:=info_parts C6w
 cases ad with
 | none =>
  obtain rfl:=hnil rfl;obtain rfl:m=0:=by omega
  obtain rfl:news=[]:=Za (by omega);have q:∀ W,(binOp .eql 64 (.slice none 0 0) (.slice none 0 0)).run Zp W=.ok (.bool true) W:=fun W=>_root_.Go.run_eql_slice_nil W _ _ none 0 0 B8n
  go_enter Tryz.func127,Tryz.ntmps127
  go_wp2;go_ret;exact⟨none,0,rfl,Zr _ _ _ _,A0.refl w⟩
 | some p =>
  have HR:=Hz hR;have H1:=Hz h1;clear hR h1 hnil;have q:∀ W,(binOp .eql 64 (.slice (some p) m c) (.slice none 0 0)).run Zp W=.ok (.bool false) W:=fun W=>_root_.Go.run_eql_slice_nil W _ _ (some p) m c B8n
  go_enter Tryz.func127,Tryz.ntmps127
  go_wp2_with (at_builtin;refine A5e rfl _ _ 64 rfl w.heap.size 4 i0 (.bool false) 1 1 B8n hi hz0 hz1 hz2 rfl (by decide) _ 0 [] rfl (C2d w _ _) (some p) m c news rfl (fun h=>by cases h) hmc hl (HR.out.ext ((A0.refl w).alloc_ _)) H1.out (by unfold maxLen;omega) (by omega) (by simp) ?_)
  intro a2 c2 w2 hown hgrow hat
  have hx:A0 w w2:=Below.grown ((A0.refl w).alloc_ _) hgrow (by simp) (fun g hg=>Zn (Option.some.inj (show some w.heap.size=some g from hg)));have HX:=Hz hx;have HO:=Hz hown;clear hown hgrow hat hx;go_wp2;go_ret;exact⟨a2,c2,rfl,HO.out,HX.out⟩
def C3p (w:World) (M:A7) (e:Ending) (w':World):Prop :=
 ∃ b S,e=.returned (.pointer (some ⟨b,0,none⟩))∧B7 w' w.heap.size b 140 M S∧A0 w w'
def B8e (b:Nat) (w:World):List I6→World
 | []=>w
 | f::fs=>B8e b (w.setCell ⟨b,f.off,none⟩ f.val) fs
theorem OM.adds {B b:Nat} {nums:List (Nat × Int)}:∀ (fs L:List I6) (w:World),OM w B b nums L→(∀ f∈fs,∃ x,w.cell? ⟨b,f.off,none⟩=some x) →
  (∀ f∈fs,w.ownsRow B f.e f.size f.val f.n f.cs∧f.val.ownBlock≠some b)→(L++fs).Pairwise (fun f g=>∀ k,f.val.ownBlock=some k→g.val.ownBlock≠some k) →
  (nums.map (·.1)++(L++fs).map (·.off)).Nodup→OM (B8e b w fs) B b nums (L++fs)
 | [],L,w,h,_,_,_,_=>by simpa [B8e] using h
 | f::fs,L,w,h,hc,hr,hp,hn=>by
  have h1:=h.add f (hc f (by simp)) (hr f (by simp)).1 (hr f (by simp)).2 (fun g hg k hk=>(Zl.1 hp).2.2 g hg f (by simp) k hk) (fun hm=>by
   rw[Ze,Zf,←List.append_assoc,Zj] at hn;exact hn.2.2 _ hm _ (by simp) rfl)
  have hoff:∀ g∈fs,f.off≠g.off:=fun g hg e=>by
   rw[Ze,Zf,←List.append_assoc,Zj] at hn;exact (List.nodup_cons.1 hn.2.1).1 (by rw[e];exact Zi hg)
  have h2:=OM.adds fs (L++[f]) _ h1 (fun g hg=>by obtain⟨x,hx⟩:=hc g (by simp[hg]);exact⟨x,by rw[J4 (hoff g hg)];exact hx⟩)
   (fun g hg=>⟨A4i (hr g (by simp[hg])).1 (hr g (by simp[hg])).2 _,(hr g (by simp[hg])).2⟩) (by simpa using hp) (by simpa using hn)
  simpa [B8e] using h2
theorem B4u {w:World} {lo hi:Nat} {e:TypeId} {size:Nat} {a:Option Addr} {n c:Nat} {xs:List Value} (h:w.ownsRow lo e size (.slice a n c) n xs) (hw:w.heap.size≤hi):∀ k,(Value.slice a n c).ownBlock=some k→lo≤k∧k<hi:=fun k hk=>by
 have:=h.lt k hk;omega
theorem A2n {w w':World} {B B':Nat} {e:TypeId} {size:Nat} {v:Value} {n:Nat} {xs:List Value} (h:w.ownsRow B e size v n xs) (hB:B'≤B) (hx:A0 w w'):w'.ownsRow B' e size v n xs:=by
 have hlt:=h.lt;obtain⟨h1,h2⟩:=h;refine⟨h1,?_⟩;rcases h2 with h2|⟨g,cap,cur,hv,hg,hh,r⟩
 ·exact Or.inl h2
 ·refine Or.inr ⟨g,cap,cur,hv,by omega,?_,r⟩;rw[hx.block g (hlt g (by rw[hv];rfl)).2];exact hh
def B5v (M:A7) (S:C8) (t:TypeId):Obj:=.cells #[Value.int .i64 M.half,.int .i64 M.old,.int .i64 M.card,.slice S.W.1 M.W.length S.W.2,.int .i64 M.used,.int .i64 M.top,.int .i64 M.oldTop,.slice S.R.1 M.roots.length S.R.2,.slice S.K.1 M.weak.length S.K.2,.slice S.I.1 M.ids.length S.I.2,.slice S.C.1 M.cards.length S.C.2] t
theorem E9c (w:World) (M:A7) (S:C8) (t:TypeId) :
  OM (w.alloc (B5v M S t)) w.heap.size w.heap.size (L5 M) []∧∀ j,j<11→∃ x,(w.alloc (B5v M S t)).cell? ⟨w.heap.size,j,none⟩=some x:=by
 have hc:∀ j v,(#[Value.int .i64 M.half,.int .i64 M.old,.int .i64 M.card,.slice S.W.1 M.W.length S.W.2,.int .i64 M.used,.int .i64 M.top,.int .i64 M.oldTop,.slice S.R.1 M.roots.length S.R.2,.slice S.K.1 M.weak.length S.K.2,.slice S.I.1 M.ids.length S.I.2,.slice S.C.1 M.cards.length S.C.2]:Array Value)[j]?=some v→(w.alloc (B5v M S t)).cell? ⟨w.heap.size,j,none⟩=some v:=fun j v hv=>by
  unfold B5v;rw[cell_of_row _ w.heap.size j _ t (0,0) (heap_alloc_new w _)];exact hv
 refine⟨⟨Zo _,⟨_,t,heap_alloc_new w _⟩,fun p hp=>?_,fun f hf=>by simp at hf,List.Pairwise.nil,by simp[L5]⟩,fun j hj=>⟨_,hc j _ (Array.getElem?_eq_getElem (by simpa using hj))⟩⟩;simp only[L5,Zh,Zk,or_false] at hp;rcases hp with rfl|rfl|rfl|rfl|rfl|rfl<;>exact hc _ _ rfl
theorem D8k (b:Nat) (M:A7) (S:C8) (w:World) (hM:G8 w b 0 M S) (hF:Few M) :
  Calls Zp 76 #[.pointer (some ⟨b,0,none⟩)] w (C3p w M):=by
 have HM:=Hz hM;have HF:=Hz hF;have n0:=hM.half;have n1:=hM.old;have n2:=hM.card;have n3:=hM.W;have n4:=hM.used;have n5:=hM.top;have n6:=hM.oldTop;have n7:=hM.roots;have n8:=hM.weak;have n9:=hM.ids;have n10:=hM.cards;simp only[Nat.zero_add] at n0 n1 n2 n3 n4 n5 n6 n7 n8 n9 n10;have hlt:=hM.lt;clear hM hF
 go_enter Tryz.func76,Tryz.ntmps76
 go_wp2;obtain⟨hO0,hc0⟩:=E9c w M S 82;have HO0:=Hz hO0;have HC0:=Hz hc0;clear hO0 hc0;refine P4 (fun W0 hW0=>?_);have hE0:A0 w W0:=by rw[hW0];exact (A0.refl w).alloc_ _
 have hO1:OM W0 w.heap.size w.heap.size (L5 M) []:=by rw[hW0];exact HO0.out
 have hC1:∀ j,j<11→∃ x,W0.cell? ⟨w.heap.size,j,none⟩=some x:=by rw[hW0];exact HC0.out
 have HE0:=Hz hE0;have HO1:=Hz hO1;have HC1:=Hz hC1;have hz0:w.heap.size<W0.heap.size:=hO1.lt;have m3:=hE0.cell_ n3;have m7:=hE0.cell_ n7;have m8:=hE0.cell_ n8;have m9:=hE0.cell_ n9;have m10:=hE0.cell_ n10;clear hW0 hE0 hO1 hC1 HO0 HC0 n0 n1 n2 n3 n4 n5 n6 n7 n8 n9 n10;generalize hbo:w.heap.size=bo at *
 refine wp_region_held_drew (S:=fun W=>W.cell? ⟨b,3,none⟩=some (.slice S.W.1 M.W.length S.W.2)∧W.cell? ⟨b,7,none⟩=some (.slice S.R.1 M.roots.length S.R.2)∧W.cell? ⟨b,8,none⟩=some (.slice S.K.1 M.weak.length S.K.2)∧W.cell? ⟨b,9,none⟩=some (.slice S.I.1 M.ids.length S.I.2)∧W.cell? ⟨b,10,none⟩=some (.slice S.C.1 M.cards.length S.C.2)) (by kernel_rfl) ?_ (fun hH=>?_)
 ·exact⟨m3,m7,m8,m9,m10⟩
 refine tJ 0 9 rfl ?_
 try simp only[A5]
 refine tJ 1 10 rfl ?_
 try simp only[A5]
 refine tJ 2 11 rfl ?_
 try simp only[A5]
 refine tJ 3 12 rfl ?_
 try simp only[A5]
 refine tJ 5 14 rfl ?_
 try simp only[A5]
 refine tJ 6 15 rfl ?_
 try simp only[A5]
 refine tJ 7 16 rfl ?_
 try simp only[A5]
 refine tJ 8 17 rfl ?_
 try simp only[A5]
 refine tJ 10 19 rfl ?_
 try simp only[A5]
 refine tJ 11 20 rfl ?_
 try simp only[A5]
 refine tJ 12 21 rfl ?_
 try simp only[A5]
 refine tJ 13 22 rfl ?_
 try simp only[A5]
 refine tJ 15 24 rfl ?_
 try simp only[A5]
 refine tJ 16 25 rfl ?_
 try simp only[A5]
 refine tJ 17 26 rfl ?_
 try simp only[A5]
 refine tJ 18 27 rfl ?_
 try simp only[A5]
 refine tJ 20 29 rfl ?_
 try simp only[A5]
 refine tJ 21 30 rfl ?_
 try simp only[A5]
 refine tJ 22 31 rfl ?_
 try simp only[A5]
 refine tJ 23 32 rfl ?_
 try simp only[A5]
 refine wpAnyH_ready (rs:=[4]) (by kernel_rfl) (by simp) ?_;refine AllReadyH.cons (o:=⟨some 13,_,_,_,_,_⟩) rfl (fun K hK=>?_) AllReadyH.nil;go_simp;refine (B5y _ _ _ (C5 M.W) _ HM.out.nilW HM.out.capW (A7l _) (HM.out.ext (A0.trans_ HE0.out eX)).rW (A6r _) HF.out.W).mono ?_;rintro e w1 ⟨a1,c1,rfl,ho,hx⟩;have HR1:=Hz ho;have HX1:Hid (A0 W0 w1):=A0.trans_ eX hx;have HA1:Hid (A0 W0 w1):=HX1.out;clear ho hx;refine hK.out _ _ ?_ (fun hH=>?_)
 ·(try dsimp only);exact⟨A0.cell_ (w:=W0) HA1.out m3,A0.cell_ (w:=W0) HA1.out m7,A0.cell_ (w:=W0) HA1.out m8,A0.cell_ (w:=W0) HA1.out m9,A0.cell_ (w:=W0) HA1.out m10⟩
 clear hK K
 try simp only[A5]
 refine wpAnyH_ready (rs:=[9]) (by kernel_rfl) (by simp) ?_;refine AllReadyH.cons (o:=⟨some 18,_,_,_,_,_⟩) rfl (fun K hK=>?_) AllReadyH.nil;go_simp;refine (B5y _ _ _ (C5 M.roots) _ HM.out.nilR HM.out.capR (A7l _) (HM.out.ext (A0.trans_ HE0.out (by repeat (first|exact HA1.out|exact A0.refl _|(refine A0.drew_ ?_)|(refine A0.drewN_ ?_ _))))).rR (A6r _) HF.out.R).mono ?_;rintro e w2 ⟨a2,c2,rfl,ho,hx⟩;have HR2:=Hz ho;have HX2:Hid (A0 w1 w2):=A0.trans_ eX hx;have HA2:Hid (A0 W0 w2):=A0.trans_ HA1.out HX2.out;clear ho hx;refine hK.out _ _ ?_ (fun hH=>?_)
 ·(try dsimp only);exact⟨A0.cell_ (w:=W0) HA2.out m3,A0.cell_ (w:=W0) HA2.out m7,A0.cell_ (w:=W0) HA2.out m8,A0.cell_ (w:=W0) HA2.out m9,A0.cell_ (w:=W0) HA2.out m10⟩
 clear hK K
 try simp only[A5]
 refine wpAnyH_ready (rs:=[14]) (by kernel_rfl) (by simp) ?_;refine AllReadyH.cons (o:=⟨some 23,_,_,_,_,_⟩) rfl (fun K hK=>?_) AllReadyH.nil;go_simp;refine (B5y _ _ _ (C5 M.weak) _ HM.out.nilK HM.out.capK (A7l _) (HM.out.ext (A0.trans_ HE0.out (by repeat (first|exact HA2.out|exact A0.refl _|(refine A0.drew_ ?_)|(refine A0.drewN_ ?_ _))))).rK (A6r _) HF.out.K).mono ?_;rintro e w3 ⟨a3,c3,rfl,ho,hx⟩;have HR3:=Hz ho;have HX3:Hid (A0 w2 w3):=A0.trans_ eX hx;have HA3:Hid (A0 W0 w3):=A0.trans_ HA2.out HX3.out;clear ho hx;refine hK.out _ _ ?_ (fun hH=>?_)
 ·(try dsimp only);exact⟨A0.cell_ (w:=W0) HA3.out m3,A0.cell_ (w:=W0) HA3.out m7,A0.cell_ (w:=W0) HA3.out m8,A0.cell_ (w:=W0) HA3.out m9,A0.cell_ (w:=W0) HA3.out m10⟩
 clear hK K
 try simp only[A5]
 refine wpAnyH_ready (rs:=[19]) (by kernel_rfl) (by simp) ?_;refine AllReadyH.cons (o:=⟨some 28,_,_,_,_,_⟩) rfl (fun K hK=>?_) AllReadyH.nil;go_simp;refine (D7d _ _ _ (G0 M.ids) _ HM.out.nilI HM.out.capI (C6n _) (HM.out.ext (A0.trans_ HE0.out (by repeat (first|exact HA3.out|exact A0.refl _|(refine A0.drew_ ?_)|(refine A0.drewN_ ?_ _))))).rI (B6t _) HF.out.I).mono ?_;rintro e w4 ⟨a4,c4,rfl,ho,hx⟩;have HR4:=Hz ho;have HX4:Hid (A0 w3 w4):=A0.trans_ eX hx;have HA4:Hid (A0 W0 w4):=A0.trans_ HA3.out HX4.out;clear ho hx;refine hK.out _ _ ?_ (fun hH=>?_)
 ·(try dsimp only);exact⟨A0.cell_ (w:=W0) HA4.out m3,A0.cell_ (w:=W0) HA4.out m7,A0.cell_ (w:=W0) HA4.out m8,A0.cell_ (w:=W0) HA4.out m9,A0.cell_ (w:=W0) HA4.out m10⟩
 clear hK K
 try simp only[A5]
 refine wpAnyH_ready (rs:=[24]) (by kernel_rfl) (by simp) ?_;refine AllReadyH.cons (o:=⟨some 33,_,_,_,_,_⟩) rfl (fun K hK=>?_) AllReadyH.nil;go_simp;refine (D7c _ _ _ (R7 M.cards) _ HM.out.nilC HM.out.capC (B9n _) (HM.out.ext (A0.trans_ HE0.out (by repeat (first|exact HA4.out|exact A0.refl _|(refine A0.drew_ ?_)|(refine A0.drewN_ ?_ _))))).rC (B9o _) HF.out.C).mono ?_;rintro e w5 ⟨a5,c5,rfl,ho,hx⟩;have HR5:=Hz ho;have HX5:Hid (A0 w4 w5):=A0.trans_ eX hx;have HA5:Hid (A0 W0 w5):=A0.trans_ HA4.out HX5.out;clear ho hx;refine hK.out _ _ ?_ (fun hH=>?_)
 ·(try dsimp only);exact⟨A0.cell_ (w:=W0) HA5.out m3,A0.cell_ (w:=W0) HA5.out m7,A0.cell_ (w:=W0) HA5.out m8,A0.cell_ (w:=W0) HA5.out m9,A0.cell_ (w:=W0) HA5.out m10⟩
 clear hK K
 try simp only[A5]
 have hO5:OM w5 bo bo (L5 M) []:=HO1.out.ext HA5.out;obtain⟨x3,q3⟩:=HC1.out 3 (by decide);obtain⟨x7,q7⟩:=HC1.out 7 (by decide);obtain⟨x8,q8⟩:=HC1.out 8 (by decide);obtain⟨x9,q9⟩:=HC1.out 9 (by decide);obtain⟨x10,q10⟩:=HC1.out 10 (by decide);have e3:=HA5.out.cell_ q3;have e7:=HA5.out.cell_ q7;have e8:=HA5.out.cell_ q8;have e9:=HA5.out.cell_ q9;have e10:=HA5.out.cell_ q10;have z3:=hO5.frozen 3;have z7:=hO5.frozen 7;have z8:=hO5.frozen 8;have z9:=hO5.frozen 9;have z10:=hO5.frozen 10;have g3:=HA5.out.cell_ m3;have g7:=HA5.out.cell_ m7;have g8:=HA5.out.cell_ m8;have g9:=HA5.out.cell_ m9;have g10:=HA5.out.cell_ m10;have HO5:=Hz hO5;clear q3 q7 q8 q9 q10 hO5 m3 m7 m8 m9 m10;refine tJ 25 34 rfl ?_
 try simp only[A5]
 refine wpAnyH_ready (rs:=[26]) (by kernel_rfl) (by simp) ?_;refine AllReadyH.cons (o:=⟨none,_,_,_,_,_⟩) rfl (fun K hK=>?_) AllReadyH.nil;go_simp;skip;refine hK.out _ _ ?_ (fun hH=>?_)
 ·(try dsimp only);exact⟨by (repeat rw[Zq _ _ _ _ (by simp;omega)]);exact g3,by (repeat rw[Zq _ _ _ _ (by simp;omega)]);exact g7,by (repeat rw[Zq _ _ _ _ (by simp;omega)]);exact g8,by (repeat rw[Zq _ _ _ _ (by simp;omega)]);exact g9,by (repeat rw[Zq _ _ _ _ (by simp;omega)]);exact g10⟩
 clear hK K
 try simp only[A5]
 refine tJ 27 35 rfl ?_
 try simp only[A5]
 refine wpAnyH_ready (rs:=[28]) (by kernel_rfl) (by simp) ?_;refine AllReadyH.cons (o:=⟨none,_,_,_,_,_⟩) rfl (fun K hK=>?_) AllReadyH.nil;go_simp;skip;refine hK.out _ _ ?_ (fun hH=>?_)
 ·(try dsimp only);exact⟨by (repeat rw[Zq _ _ _ _ (by simp;omega)]);exact g3,by (repeat rw[Zq _ _ _ _ (by simp;omega)]);exact g7,by (repeat rw[Zq _ _ _ _ (by simp;omega)]);exact g8,by (repeat rw[Zq _ _ _ _ (by simp;omega)]);exact g9,by (repeat rw[Zq _ _ _ _ (by simp;omega)]);exact g10⟩
 clear hK K
 try simp only[A5]
 refine tJ 29 36 rfl ?_
 try simp only[A5]
 refine wpAnyH_ready (rs:=[30]) (by kernel_rfl) (by simp) ?_;refine AllReadyH.cons (o:=⟨none,_,_,_,_,_⟩) rfl (fun K hK=>?_) AllReadyH.nil;go_simp;skip;refine hK.out _ _ ?_ (fun hH=>?_)
 ·(try dsimp only);exact⟨by (repeat rw[Zq _ _ _ _ (by simp;omega)]);exact g3,by (repeat rw[Zq _ _ _ _ (by simp;omega)]);exact g7,by (repeat rw[Zq _ _ _ _ (by simp;omega)]);exact g8,by (repeat rw[Zq _ _ _ _ (by simp;omega)]);exact g9,by (repeat rw[Zq _ _ _ _ (by simp;omega)]);exact g10⟩
 clear hK K
 try simp only[A5]
 refine tJ 31 37 rfl ?_
 try simp only[A5]
 refine wpAnyH_ready (rs:=[32]) (by kernel_rfl) (by simp) ?_;refine AllReadyH.cons (o:=⟨none,_,_,_,_,_⟩) rfl (fun K hK=>?_) AllReadyH.nil;go_simp;skip;refine hK.out _ _ ?_ (fun hH=>?_)
 ·(try dsimp only);exact⟨by (repeat rw[Zq _ _ _ _ (by simp;omega)]);exact g3,by (repeat rw[Zq _ _ _ _ (by simp;omega)]);exact g7,by (repeat rw[Zq _ _ _ _ (by simp;omega)]);exact g8,by (repeat rw[Zq _ _ _ _ (by simp;omega)]);exact g9,by (repeat rw[Zq _ _ _ _ (by simp;omega)]);exact g10⟩
 clear hK K
 try simp only[A5]
 refine tJ 33 38 rfl ?_
 try simp only[A5]
 refine wpAnyH_ready (rs:=[34]) (by kernel_rfl) (by simp) ?_;refine AllReadyH.cons (o:=⟨none,_,_,_,_,_⟩) rfl (fun K hK=>?_) AllReadyH.nil;go_simp;skip;refine hK.out _ _ ?_ (fun hH=>?_)
 ·(try dsimp only);exact⟨by (repeat rw[Zq _ _ _ _ (by simp;omega)]);exact g3,by (repeat rw[Zq _ _ _ _ (by simp;omega)]);exact g7,by (repeat rw[Zq _ _ _ _ (by simp;omega)]);exact g8,by (repeat rw[Zq _ _ _ _ (by simp;omega)]);exact g9,by (repeat rw[Zq _ _ _ _ (by simp;omega)]);exact g10⟩
 clear hK K
 try simp only[A5]
 refine wpAnyH_done (by kernel_rfl) ?_ _;clear hH;go_wp2;go_ret;have s1:=HX1.out.size;have s2:=HX2.out.size;have s3:=HX3.out.size;have s4:=HX4.out.size;have s5:=HX5.out.size;have b1:=B4u (hi:=w1.heap.size) HR1.out (Zo _);have b2:=B4u (hi:=w2.heap.size) HR2.out (Zo _);have b3:=B4u (hi:=w3.heap.size) HR3.out (Zo _);have b4:=B4u (hi:=w4.heap.size) HR4.out (Zo _);have b5:=B4u (hi:=w5.heap.size) HR5.out (Zo _);have b0:W0.drew.heap.size=W0.heap.size:=rfl;have t4:A0 w4 w5:=HX5.out;have t3:A0 w3 w5:=A0.trans_ HX4.out t4;have t2:A0 w2 w5:=A0.trans_ HX3.out t3;have t1:A0 w1 w5:=A0.trans_ HX2.out t2;have r1:=A2n (B':=bo) HR1.out (by omega) t1;have r2:=A2n (B':=bo) HR2.out (by omega) t2;have r3:=A2n (B':=bo) HR3.out (by omega) t3;have r4:=A2n (B':=bo) HR4.out (by omega) t4;have r5:=A2n (B':=bo) HR5.out (by omega) (A0.refl w5);have hfin:=OM.adds [⟨3,78,1,a1,M.W.length,c1,C5 M.W⟩,⟨7,78,1,a2,M.roots.length,c2,C5 M.roots⟩,⟨8,78,1,a3,M.weak.length,c3,C5 M.weak⟩,⟨9,140,2,a4,M.ids.length,c4,G0 M.ids⟩,⟨10,4,1,a5,M.cards.length,c5,R7 M.cards⟩] [] w5 HO5.out (fun f hf=>by
   simp only[Zh,Zk,or_false] at hf;rcases hf with rfl|rfl|rfl|rfl|rfl
   ·exact⟨_,e3⟩
   ·exact⟨_,e7⟩
   ·exact⟨_,e8⟩
   ·exact⟨_,e9⟩
   ·exact⟨_,e10⟩) (fun f hf=>by
   simp only[Zh,Zk,or_false] at hf;rcases hf with rfl|rfl|rfl|rfl|rfl
   ·exact⟨r1,fun e=>by have:=b1 _ e;omega⟩
   ·exact⟨r2,fun e=>by have:=b2 _ e;omega⟩
   ·exact⟨r3,fun e=>by have:=b3 _ e;omega⟩
   ·exact⟨r4,fun e=>by have:=b4 _ e;omega⟩
   ·exact⟨r5,fun e=>by have:=b5 _ e;omega⟩) (by
   simp only[List.nil_append,Zm,Zh,Zk,or_false,forall_eq_or_imp,forall_eq];refine⟨⟨?_,?_,?_,?_⟩,⟨?_,?_,?_⟩,⟨?_,?_⟩,?_,fun _ h=>h.elim,List.Pairwise.nil⟩
   ·intro k hk e;have:=b1 k hk;have:=b2 k e;omega
   ·intro k hk e;have:=b1 k hk;have:=b3 k e;omega
   ·intro k hk e;have:=b1 k hk;have:=b4 k e;omega
   ·intro k hk e;have:=b1 k hk;have:=b5 k e;omega
   ·intro k hk e;have:=b2 k hk;have:=b3 k e;omega
   ·intro k hk e;have:=b2 k hk;have:=b4 k e;omega
   ·intro k hk e;have:=b2 k hk;have:=b5 k e;omega
   ·intro k hk e;have:=b3 k hk;have:=b4 k e;omega
   ·intro k hk e;have:=b3 k hk;have:=b5 k e;omega
   ·intro k hk e;have:=b4 k hk;have:=b5 k e;omega) (by simp[L5])
 exact⟨bo,⟨(a1,c1),(a2,c2),(a3,c3),(a4,c4),(a5,c5)⟩,rfl,hbo ▸ hfin,A0.set_ (A0.set_ (A0.set_ (A0.set_ (A0.set_ (A0.trans_ HE0.out HA5.out) (by simp;omega) _) (by simp;omega) _) (by simp;omega) _) (by simp;omega) _) (by simp;omega) _⟩
theorem F5r (w:World):(sizeOf 3).run Zp w=.ok 1 w:=by kernel_rfl
section
variable {w w1 wr:World} {B b:Nat} {M:A7} {S:C8} {X X4:Pl} {C C4:D9} {ten:Int}
theorem F8z (h:At w B b S X X4 C4 wr) (v':Value) (t:List Int) (ht:I9 wr B 3 v' (K6 t)) (hv:v'.ownBlock=X4.tv.ownBlock) :
  At w B b S X {X4 with tv:=v'} {C4 with todo:=t} (wr.setCell ⟨X4.c,5,none⟩ v'):=by
 have hk:A8 (Z3 b S X4) wr (wr.setCell ⟨X4.c,5,none⟩ v'):=A8.set_ (A8.refl _ wr) (p:=⟨X4.c,5,none⟩) (Or.inl (Or.inr (Or.inl rfl))) _;refine⟨h.c,h.mb,h.col.work (A8.refl _ wr) v' t ht (fun k hk=>Or.inl (by rw[←hv];exact hk)),h.keep.then_ hk fun i hi hk=>?_,fun i hk=>?_⟩
 ·rcases h.own i hk with q|q
  ·exact q
  ·omega
 ·refine h.own i ?_;rcases hk with hk|hk|hk|hk
  ·exact Or.inl hk
  ·exact Or.inr (Or.inl hk)
  ·exact Or.inr (Or.inr (Or.inl hk))
  ·exact Or.inr (Or.inr (Or.inr (by rw[←hv];exact hk)))
theorem D5i {C':D9} (h:At w B b S X X4 C4 wr) (e:C4=C'):At w B b S X X4 C' wr:=e ▸ h
theorem E0b (c:Nat) (hcx:X.c=c) (n N:Nat) (a z:Int) (ha:a=(n:Int)) (hz:z=(N:Int)) (w:World) (hO:G7 w B b C S X) (h1:n≤1000000) (h2:N≤1000000) (hc:B1d C (n+1) N) :
  Calls Zp 94 #[.pointer (some ⟨c,0,none⟩),.int .i64 a,.int .i64 z] w (fun e w'=>e=.returned (.tuple #[])∧A3e w B b S X (A6a C (n+1) N) w'):=by
 subst hcx ha hz;exact E0c B b C S X n N w hO h1 h2 hc
theorem E4s (c:Nat) (hcx:X.c=c) (a:Int) (h0:0≤a) (h1:a≤18446744073709551615) (w:World) (hO:G7 w B b C S X) (hok:C.M.Ok) (hs:G2 C.M) :
  Calls Zp 95 #[.pointer (some ⟨c,0,none⟩),.int .u64 a] w (fun e w'=>e=.returned (.tuple #[.int .u64 (O0 C a).1,.bool (O0 C a).2])∧A0 w w'):=by
 subst hcx;exact E4r B b C S X a h0 h1 w hO hok hs
end
def Y3 (C:D9) (k:Nat):D9:={C with M:={C.M with weak:=(A0u C).take k++C.M.weak.drop k}}
theorem B8s (C:D9):(A0u C).length=C.M.weak.length:=by simp[A0u]
theorem B2s (C:D9) (k:Nat):(Y3 C k).M.weak.length=C.M.weak.length:=by
 simp only[Y3,List.length_append,Zd,List.length_drop,B8s];omega
theorem F8w (C:D9):Y3 C 0=C:=by simp[Y3]
theorem F8s (C:D9):Y3 C C.M.weak.length={C with M:={C.M with weak:=A0u C}}:=by
 have:(A0u C).take C.M.weak.length=A0u C:=List.take_of_length_le (by rw[B8s];omega);simp[Y3,this]
theorem F8t (C:D9) (k:Nat) (hk:k<C.M.weak.length):(Y3 C k).M.weak.getD k 0=C.M.weak.getD k 0:=by
 simp only[Y3,Zb];have hl:((A0u C).take k).length=k:=by rw[Zd,B8s];omega
 rw[List.getElem?_append_right (by omega),hl,Nat.sub_self,List.getElem?_drop,Nat.add_zero]
theorem F8m (C:D9) (k:Nat) (hk:k<C.M.weak.length):(A0u C)[k]?=some (if (O0 C (C.M.weak.getD k 0)).2 then (O0 C (C.M.weak.getD k 0)).1 else 2):=by
 unfold A0u;rw[List.getElem?_map,Zc hk,Zb,Zc hk];rfl
theorem F8u (C:D9) (k:Nat) (hk:k<C.M.weak.length) (v:Int) (hv:v=(if (O0 C (C.M.weak.getD k 0)).2 then (O0 C (C.M.weak.getD k 0)).1 else 2)) :
  ({Y3 C k with M:={(Y3 C k).M with weak:=(Y3 C k).M.weak.set k v}}:D9)=Y3 C (k+1):=by
 have h:((A0u C).take k++C.M.weak.drop k).set k v=(A0u C).take (k+1)++C.M.weak.drop (k+1):=by
  have hl:((A0u C).take k).length=k:=by rw[Zd,B8s];omega
  rw[List.set_append_right _ _ (by omega),hl,Nat.sub_self,List.drop_eq_getElem_cons hk,List.set_cons_zero,List.take_add_one,F8m C k hk,←hv];simp
 simp only[Y3];rw[h]
theorem E4q (C:D9) (u:Int) (h0:0≤u) (h1:u≤18446744073709551615):0≤(O0 C u).1∧(O0 C u).1≤18446744073709551615:=by
 unfold O0
 split
 ·exact⟨h0,h1⟩
 ·split<;>exact B3b _
theorem B2t (C:D9) (h:C.M.Ok) (k:Nat):(Y3 C k).M.Ok :=
 ⟨h.half,h.old,h.card,h.used,h.top,h.oldTop,h.W,h.roots,fun x hx=>by
  rcases Zg.1 hx with q|q
  ·obtain⟨u,hu,rfl⟩:=List.mem_map.1 (List.mem_of_mem_take q);have:=h.weak u hu
   split
   ·exact E4q C u this.1 this.2
   ·omega
  ·exact h.weak x (List.mem_of_mem_drop q),h.ids,h.lenW,h.lenR,by rw[B2s];exact h.lenK,h.lenI,h.lenC⟩
theorem F8v (C:D9) (h:G2 C.M) (k:Nat):G2 (Y3 C k).M:=⟨h.h1,h.h2,h.o1,h.o2,h.c1,h.c2,h.w,h.u1,h.u2,h.t1,h.t2,h.p1,h.p2,h.cl⟩
theorem B7d {w:World} {B b:Nat} {S:C8} {X:Pl} (C:D9) (k:Nat) (c:Nat) (hcx:X.c=c) (a:Int) (h0:0≤a) (h1:a≤18446744073709551615) (hO:G7 w B b (Y3 C k) S X) (hok:C.M.Ok) (hs:G2 C.M) :
  Calls Zp 95 #[.pointer (some ⟨c,0,none⟩),.int .u64 a] w (fun e w'=>e=.returned (.tuple #[.int .u64 (O0 C a).1,.bool (O0 C a).2])∧A0 w w') :=
 (E4s (C:=Y3 C k) c hcx a h0 h1 w hO (B2t C hok k) (F8v C hs k) :)
theorem C6q {M:A7} (hg:goodB M=true):M.ids.length≤196608:=by
 obtain⟨hs,hob,hr,hw,hfo,hid⟩:=K5 hg;obtain⟨h1,h2⟩:=(A4t _ _ _).1 hid;have hl:=B2a (M.ids.map fun x=>C9 x.1) (C6 M) (by
  unfold List.Nodup;rw[List.pairwise_map];refine List.Pairwise.imp_of_mem (fun {p q} hp hq hpq e=>?_) h2;obtain⟨⟨p1,p2,p3,p4⟩,-⟩:=h1 p hp;obtain⟨⟨q1,q2,q3,q4⟩,-⟩:=h1 q hq;apply hpq.1;unfold C9 at e;unfold C7 at p1 q1;omega) (fun k hk=>by
  obtain⟨x,hx,rfl⟩:=List.mem_map.1 hk;exact (A9k _ _).1 (h1 x hx).1.2.2.1)
 have h3:(C6 M).length=(D8 M).length:=by simp[C6]
 have h4:=A3u hs;obtain⟨hb,b0,b1⟩:=hs.base;have s1:=hs.h1;have s2:=hs.t2;have s3:=hs.p2;have s4:=hs.w;have s5:=hs.t1;have s6:=hs.p1;have l1:=A9n M.W (M.base+M.top.toNat-M.base) M.base (M.base+M.top.toNat);have l2:=A9n M.W ((2*M.half).toNat+M.oldTop.toNat-(2*M.half).toNat) (2*M.half).toNat ((2*M.half).toNat+M.oldTop.toNat);have e1:(partN M).1.length≤M.base+M.top.toNat-M.base:=l1;have e2:(partO M).1.length≤(2*M.half).toNat+M.oldTop.toNat-(2*M.half).toNat:=l2;have e3:(D8 M).length=(partN M).1.length+(partO M).1.length:=by unfold D8;rw[List.length_append]
 rw[List.length_map] at hl;omega
def B1x (C:D9) (l:List (Int × Int)):List (Int × Int):=l.filterMap fun x=>if (O0 C x.1).2 then some ((O0 C x.1).1,x.2) else none
theorem E3c (C:D9) (l:List (Int × Int)) (k:Nat) (hk:k<l.length):B1x C (l.take (k+1))=if (O0 C l[k].1).2 then B1x C (l.take k)++[((O0 C l[k].1).1,l[k].2)] else B1x C (l.take k):=by
 unfold B1x;rw[List.take_add_one,Zc hk,List.filterMap_append]
 cases h:(O0 C l[k].1).2<;>simp[h]
theorem E3b (C:D9) (l:List (Int × Int)):(B1x C l).length≤l.length:=List.length_filterMap_le _ _
theorem C6o (v:List (Int × Int)) (x:Int × Int):G0 (v++[x])=G0 v++[Value.int .u64 x.1,Value.int .i64 x.2]:=by simp[G0]
section
variable {w:World} {B b:Nat} {M:A7} {S:C8}
theorem D7n (h:B7 w B b 140 M S) (a:Option Addr) (c:Nat) (l:List (Int × Int)) (ho:w.ownsRow B 140 2 (.slice a l.length c) l.length (G0 l)) (hn:∀ k,(Value.slice a l.length c).ownBlock=some k→¬G1 b S k) (u t:Int) :
  B7 (((w.setCell ⟨b,9,none⟩ (.slice a l.length c)).setCell ⟨b,4,none⟩ (.int .i64 u)).setCell ⟨b,5,none⟩ (.int .i64 t)) B b 140 {M with ids:=l,used:=u,top:=t} {S with I:=(a,c)} :=
 B7.setTop (B7.setUsed (h.putI a c l ho hn) u) t
theorem D7o (u1 u2 u3:Value):A8 (G1 b S) w (((w.setCell ⟨b,9,none⟩ u1).setCell ⟨b,4,none⟩ u2).setCell ⟨b,5,none⟩ u3) :=
 A8.set_ (A8.set_ (A8.set_ (A8.refl _ w) (p:=⟨b,9,none⟩) (Or.inl (Or.inl rfl)) _) (p:=⟨b,4,none⟩) (Or.inl (Or.inl rfl)) _) (p:=⟨b,5,none⟩) (Or.inl (Or.inl rfl)) _
end
end Go.Proofs.YtelhoppfidibiaaGreatDoor
