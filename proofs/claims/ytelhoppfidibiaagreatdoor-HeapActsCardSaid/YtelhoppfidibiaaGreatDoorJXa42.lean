/- The law HeapActs: the closed facts of its row, each by itself. -/
import Derived.Test.YtelhoppfidibiaaGreatDoorJXa38
set_option linter.unusedSimpArgs false
set_option linter.unusedVariables false
set_option maxHeartbeats 40000000
set_option maxRecDepth 100000
open Bool renaming and_false→Za,and_true→Zb,false_and→Zc
open Int renaming toNat_natCast→Zd
open Go.IntWalk renaming i64_in→Ze
open List renaming getElem?_eq_getElem→Zf,getElem?_map→Zg,length_set→Zh
open Go.Proofs.Tryz renaming prog→Zi
namespace Go.Proofs.YtelhoppfidibiaaGreatDoor.HeapActs
open Go.ChangeShapes Go.WideShapes Go.ChangeAt Go.RowKit
theorem closed:joinedFacts Zi 8 Tryz.f8 (OpenSpec.ofChange Rows.heapActsSpec).bare Rows.heapActsRow=true:=by
 unfold joinedFacts
 repeat' (with_reducible refine Bool.and_eq_true_iff.2 ⟨?_,?_⟩)
 all_goals as_aux_lemma=>kernel_rfl
end Go.Proofs.YtelhoppfidibiaaGreatDoor.HeapActs
namespace Go.Proofs.YtelhoppfidibiaaGreatDoor
open Go.RowKit
theorem E4x {α:Type} (l xs:List α) (off k:Nat) (x:α) (h:(l.drop off).take xs.length=xs) (hk:k<xs.length):((l.set (off+k) x).drop off).take (xs.set k x).length=xs.set k x:=by
 rw[Zh,List.drop_set,if_neg (by omega),show off+k-off=k by omega,List.take_set,h]
theorem I9.set {w:World} {B:Nat} {e:TypeId} {g off n c k:Nat} {xs:List Value} (h:I9 w B e (.slice (some ⟨g,off,none⟩) n c) xs) (hk:k<xs.length) (x:Value):I9 (w.setCell ⟨g,off+k,none⟩ x) B e (.slice (some ⟨g,off,none⟩) n c) (xs.set k x):=by
 rcases h with⟨h1,_⟩|⟨g',off',cap,cur,hv,q1,q2,q3,q4,q5,q6⟩
 ·cases h1
 ·cases hv
  refine Or.inr ⟨g,off,c,cur.setIfInBounds (off+k) x,by rw[Zh],q1,?_,by rw[Zh];exact q3,q4,by simpa using q5,?_⟩
  ·simp only[World.setCell,Array.getElem?_modify];simp[q2]
  ·rw[Array.toList_setIfInBounds];exact E4x _ _ _ _ _ q6 hk
theorem I9.cell {w:World} {B:Nat} {e:TypeId} {g off n c k:Nat} {xs:List Value} (h:I9 w B e (.slice (some ⟨g,off,none⟩) n c) xs) {x:Value} (hk:xs[k]?=some x):w.cell? ⟨g,off+k,none⟩=some x∧∀ j,w.frozen? ⟨g,j,none⟩=false:=by
 rcases h with⟨h1,_⟩|⟨g',off',cap,cur,hv,q1,q2,q3,q4,q5,q6⟩
 ·cases h1
 ·cases hv
  refine⟨?_,fun j=>by simp[World.frozen?,q2]⟩;rw[cell_of_row w g _ cur e (0,0) q2];rw[←q6,List.getElem?_take] at hk
  split at hk
  ·simpa using hk
  ·cases hk
end Go.Proofs.YtelhoppfidibiaaGreatDoor
namespace Go.Proofs.YtelhoppfidibiaaGreatDoor
open Go.RowKit
section
variable {B:Nat} {I:B4} {nx:Int} {X:Q7}
theorem E9.weak_at {w:World} (h:E9 w B I nx X) {k:Nat} (hk:k<I.weak.length) {a:Nat} (ha:B6 (I.weak.getD k 0)=(a:Int)):∃ g o c,X.wv=.slice (some ⟨g,o,none⟩) I.weak.length c∧w.cell? ⟨g,o+k,none⟩=some (.pointer (some ⟨X.pl a,0,none⟩)):=by
 obtain⟨wa,wc,hwv⟩:=h.wkv;have hk2:=h.wk;rw[hwv] at hk2;obtain⟨_,hr⟩:=I9.read hk2;obtain⟨g,o,e,hc⟩:=hr k (.pointer (some ⟨X.pl a,0,none⟩)) (by
  unfold wkV;rw[Zg,Zf hk];rw[List.getD_eq_getElem?_getD,Zf hk] at ha;show some (Value.pointer (some ⟨X.pl (B6 I.weak[k]).toNat,0,none⟩))=_;rw[show B6 I.weak[k]=(a:Int) from ha,Zd])
 exact⟨g,o,wc,by rw[hwv,e],hc⟩
theorem E6l (w:World) (hM:E9 w B I nx X) (hw:D5 I) (hl:I.V.length≤1000000000) (hrl:I.roots.length≤1000000) {k a:Nat} (hk:k<I.weak.length) (ha:B6 (I.weak.getD k 0)=(a:Int)) (haP:a∈I.P) (hn:¬a∈(K4 I).map (·.a)) :
  Calls Zi 75 #[.pointer (some ⟨X.mb,0,none⟩),.int .i64 (k:Int)] w fun e w'=>e=.returned (.bool true)∧A0 w w':=by
 have HRW:Hid (∀ w',A0 w w'→Calls Zi 63 #[.pointer (some ⟨X.mb,0,none⟩)] w' (B9f w' X.pl (K4 I))):=fun w' hx=>C1r w' B I nx X (hM.ext hx) hw hl hrl
 have hg:=A9i hw hl;have HLL:Hid ((K4 I).length≤1000000000):=Nat.le_trans (hg.len hw) hl;have HOB:Hid (L9 (K4 I) (a:Int)=-1):=C9k fun j hj e=>hn (e ▸ List.mem_map_of_mem (List.getElem_mem hj))
 have HI:Hid (∀ o∈K4 I,X.pl o.a=X.pl a→o.a=a):=fun o ho e=>hM.inj (hg.ob o ho).2 haP e
 have HPB:Hid (∀ w',A0 w w'→(∀ o∈K4 I,PB w' (X.pl o.a))∧PB w' (X.pl a)):=fun w' hx=>⟨fun o ho=>PB.ext ((hM.node _ (hg.ob o ho).2).blk) hx,PB.ext ((hM.node a haP).blk) hx⟩
 obtain⟨g,o,c,hwv,hc⟩:=hM.weak_at hk ha;have q1:=hM.weak;rw[hwv] at q1;have hkz:(k:Int)<(I.weak.length:Int):=by omega
 have y1:X.mb<w.heap.size:=B9 q1;have y2:g<w.heap.size:=B9 hc;clear hM hw hl hrl ha haP hn hwv hg hk;generalize K4 I=l at *
 go_enter Tryz.func75,Tryz.ntmps75
 go_upto_region 1 with fail
 go_region_with (first
  | (go_at_call 63;refine (HRW.out _ eX).mono ?_;rintro e w1 ⟨ra,rc,rfl,hO,hq⟩;have HX1:Hid (A0 w w1):=A0.trans_ eX hq;have HRR:=Hz ((R4 hO).1);have d1:=HX1.out.cell_ q1;have d2:=HX1.out.cell_ hc;have y3:X.mb<w1.heap.size:=B9 d1;have y4:g<w1.heap.size:=B9 d2;clear hO hq)
  | (go_at_call 120;refine (B7q _ _ l X.pl a _ (HRR.out.ext eX) HLL.out HI.out (HPB.out _ (HX1.out.trans_ eX)).1 (HPB.out _ (HX1.out.trans_ eX)).2).mono ?_;rintro e w2 ⟨he,hq⟩;rw[HOB.out] at he;subst he;have HX2:Hid (A0 w w2):=(HX1.out.trans_ eX).trans_ hq;clear hq))
 all_goals
  go_wp2;go_ret;exact⟨rfl,HX2.out.trans_ eX⟩
def B5q (w:World) (B B2:Nat) (I:B4) (X:Q7) (gv:Value) (g':List Bool) (J:B4) (nx:Int) (e:Ending) (w':World):Prop :=
 e=.returned (.bool true)∧∃ wm,A8 (fun i=>gv.ownBlock=some i) w wm∧I9 w' B2 4 gv (g'.map .bool)∧E9 wm B I nx X∧Y4 wm B I X J nx 0 (.returned (.int .i64 0)) w'
theorem C7z {w wm w':World} {B2 gg go n gc:Nat} {g':List Bool} {J:B4} (hk:A8 (fun i=>(Value.slice (some ⟨gg,go,none⟩) n gc).ownBlock=some i) w wm) (hT:I9 wm B2 4 (.slice (some ⟨gg,go,none⟩) n gc) (g'.map .bool)) (hM:E9 wm B I nx X) (hgn:¬ML I X gg) (hd:Y4 wm B I X J nx 0 (.returned (.int .i64 0)) w') :
  B5q w B B2 I X (.slice (some ⟨gg,go,none⟩) n gc) g' J nx (.returned (.bool true)) w':=by
 refine⟨rfl,wm,hk,?_,hM,hd⟩;obtain⟨-,X',-,-,hk,-⟩:=hd;exact hT.keep hk fun i hi=>by cases hi;exact hgn
theorem E5j (x:E4) (w:World) (B2:Nat) (g:List Bool) (gg go gc:Nat) (hM:E9 w B I nx X) (hw:D5 I) (hl:I.V.length≤1000000000) (hgt:I9 w B2 4 (.slice (some ⟨gg,go,none⟩) g.length gc) (g.map .bool)) (hgl:g.length=I.weak.length) (hgn:¬ML I X gg) {kn rn a:Nat} (ea:x.a=(kn:Int)) (eb:x.b=(rn:Int)) (hkl:kn<I.weak.length) (hrl:rn<I.roots.length) (ha:I.weak.getD kn 0=D3 (a:Int)) (hal:a≤1000000000) (hf:g[kn]?=some false) :
  Calls Zi 33 #[.pointer (some ⟨X.mb,0,none⟩),.agg #[.string x.nm,.int .i64 x.a,.int .i64 x.b,.int .i64 x.c,.int .i64 x.n,.string x.s],.bool true,.slice (some ⟨gg,go,none⟩) g.length gc] w (B5q w B B2 I X (.slice (some ⟨gg,go,none⟩) g.length gc) g (I.setR rn (I.weak.getD kn 0)) nx):=by
 rw[ea,eb];obtain⟨k1,k2,k3⟩:=B3c hal X.pl;obtain⟨wg,wo,wc,hwv,hc⟩:=hM.weak_at hkl (by rw[ha];exact (A5a hal).1);have q1:=hM.weak;rw[hwv] at q1;have hgc:=(hgt.cell (k:=kn) (x:=.bool false) (by rw[Zg,hf];rfl)).1;rw[ha];have q0:=hM.roots;obtain⟨c0,c1,c2⟩:=hM.root rn hrl;obtain⟨gcur,gt,gb⟩:=hM.gblk;have gz:∀ j,w.frozen? ⟨X.G,j,none⟩=false:=A2h ⟨gcur,gt,gb⟩;have y1:X.mb<w.heap.size:=B9 q0;have y2:X.G<w.heap.size:=B9 c0;have hrz:(rn:Int)<(I.roots.length:Int):=by omega
 have HM:=Hz hM;have HW:=Hz hw;have HR:=Hz hrl;have hkz:(kn:Int)<(I.weak.length:Int):=by omega
 have hkg:(kn:Int)<(g.length:Int):=by omega
 have y3:wg<w.heap.size:=B9 hc;have y4:gg<w.heap.size:=B9 hgc;have HGT:=Hz hgt;have HK:=Hz (And.intro k1 (And.intro k2 k3));have HGN:=Hz hgn;clear hM hw hrl ea eb hgt k1 k2 k3 hwv ha hf hgl hgn gb hkl
 go_enter Tryz.func33,Tryz.ntmps33
 go_upto_region 4 with fail
 go_region;go_wp2;go_ret;exact C7z (A8.refl _ _) HGT.out HM.out HGN.out (B1q (wa:=w) HM.out (A0.refl w) HR.out HK.out.1 HK.out.2.1 HK.out.2.2 eX)
theorem E5h (x:E4) (w:World) (B2:Nat) (g:List Bool) (gg go gc:Nat) (hM:E9 w B I nx X) (hw:D5 I) (hl:I.V.length≤1000000000) (hrr:I.roots.length≤1000000) (hgt:I9 w B2 4 (.slice (some ⟨gg,go,none⟩) g.length gc) (g.map .bool)) (hgl:g.length=I.weak.length) (hgn:¬ML I X gg) {kn rn a:Nat} (ea:x.a=(kn:Int)) (eb:x.b=(rn:Int)) (hkl:kn<I.weak.length) (hrl:rn<I.roots.length) (ha:B6 (I.weak.getD kn 0)=(a:Int)) (haP:a∈I.P) (hn:¬a∈(K4 I).map (·.a)) :
  Calls Zi 33 #[.pointer (some ⟨X.mb,0,none⟩),.agg #[.string x.nm,.int .i64 x.a,.int .i64 x.b,.int .i64 x.c,.int .i64 x.n,.string x.s],.bool false,.slice (some ⟨gg,go,none⟩) g.length gc] w (B5q w B B2 I X (.slice (some ⟨gg,go,none⟩) g.length gc) (g.set kn true) (I.setR rn 2) nx):=by
 rw[ea,eb];have HGO:Hid (∀ w',A0 w w'→Calls Zi 75 #[.pointer (some ⟨X.mb,0,none⟩),.int .i64 (kn:Int)] w' fun e w''=>e=.returned (.bool true)∧A0 w' w''):=fun w' hx=>E6l w' (hM.ext hx) hw hl hrr hkl ha haP hn
 obtain⟨gb0,hgb⟩:∃ b,g[kn]?=some b:=⟨g[kn]'(by omega),Zf _⟩;have hkg:(kn:Int)<(g.length:Int):=by omega
 have HRR:=Hz hrl;have HM:=Hz hM;have HGT:=Hz hgt;have HGN:=Hz hgn;have HGB:=Hz hgb;have HKG:Hid (kn<g.length):=by rw[Hid];omega
 clear hM hw hrl ea eb hgt ha hgl hgn hkl hgb hn haP
 go_enter Tryz.func33,Tryz.ntmps33
 go_upto_region 8 with (go_at_call 75;refine (HGO.out _ eX).mono ?_;rintro e w1 ⟨rfl,hq⟩;have b0:w1.cell? ⟨w.heap.size,0,none⟩=some (.string x.nm):=hq.cell_ (by rw[World.cell?,heap_alloc_new];rfl);have b1:w1.cell? ⟨w.heap.size,1,none⟩=some (.int .i64 (kn:Int)):=hq.cell_ (by rw[World.cell?,heap_alloc_new];rfl);have b2:w1.cell? ⟨w.heap.size,2,none⟩=some (.int .i64 (rn:Int)):=hq.cell_ (by rw[World.cell?,heap_alloc_new];rfl);have b3:w1.cell? ⟨w.heap.size,3,none⟩=some (.int .i64 x.c):=hq.cell_ (by rw[World.cell?,heap_alloc_new];rfl);have b4:w1.cell? ⟨w.heap.size,4,none⟩=some (.int .i64 x.n):=hq.cell_ (by rw[World.cell?,heap_alloc_new];rfl);have b5:w1.cell? ⟨w.heap.size,5,none⟩=some (.string x.s):=hq.cell_ (by rw[World.cell?,heap_alloc_new];rfl);have HX1:Hid (A0 w w1):=A0.trans_ eX hq;clear hq)
 have hgt:=HGT.out.ext HX1.out;obtain⟨hgc,hgz⟩:=hgt.cell (k:=kn) (x:=.bool gb0) (by rw[Zg,HGB.out];rfl);obtain⟨w9,hw9⟩:∃ w9,w9=w1.setCell ⟨gg,go+kn,none⟩ (.bool true):=⟨_,rfl⟩;have hk9:A8 (·=gg) w1 w9:=by rw[hw9];exact A4v _ _ _ _
 have hM1:=HM.out.ext HX1.out;have hM9:E9 w9 B I nx X:=hM1.keep hk9 fun i hi=>by rw[hi];exact HGN.out
 have hT9:I9 w9 B2 4 (.slice (some ⟨gg,go,none⟩) g.length gc) ((g.set kn true).map .bool):=by
  rw[hw9,List.map_set];exact hgt.set (by simpa using HKG.out) _
 have q0:=hM9.roots;obtain⟨c0,c1,c2⟩:=hM9.root rn HRR.out;have gz:∀ j,w9.frozen? ⟨X.G,j,none⟩=false:=A2h hM9.gblk;have y1:X.mb<w9.heap.size:=B9 q0;have y2:X.G<w9.heap.size:=B9 c0;have y4:gg<w1.heap.size:=B9 hgc;have nb:w.heap.size≠gg:=fun e=>by have:gg<w.heap.size:=B9 (HGT.out.cell (k:=kn) (x:=.bool gb0) (by rw[Zg,HGB.out];rfl)).1;omega
 have b9:=hk9.cell (p:=⟨w.heap.size,2,none⟩) nb b2;have hrz:(rn:Int)<(I.roots.length:Int):=by have:=HRR.out;omega
 have HK9:Hid (A8 (fun i=>(Value.slice (some ⟨gg,go,none⟩) g.length gc).ownBlock=some i) w w9):=(A8.of_ext HX1.out).trans (hk9.sub fun i hi=>by rw[hi];rfl);have HM9:=Hz hM9;have HT9:=Hz hT9;clear hgt hM1 hM9 hT9 hk9 nb b0 b3 b4 b5
 go_upto_region 9 with fail
 rw[←hw9];clear hw9 hgc hgz;go_region;go_wp2;go_ret;exact C7z HK9.out HT9.out HM9.out HGN.out (B1q (wa:=w9) HM9.out (A0.refl w9) HRR.out (v:=2) (k:=0) (n:=0) (p:=none) rfl rfl rfl eX)
end
end Go.Proofs.YtelhoppfidibiaaGreatDoor
namespace Go.Proofs.YtelhoppfidibiaaGreatDoor
open Go.RowKit
structure V5 (w wr:World) (B hb b B2 mb:Nat) (ten old:Int) (R k K d:Nat) (M:A7) (S:C8) (J:B4) (ny:Int) (I:B4) (nx:Int) (g:List Bool) (gv:Value):Prop where
 oh:E7 wr B hb b M S ten ny
 md:∃ X,X.mb=mb∧E9 wr B2 I nx X∧(∀ i,HL hb b S i→¬ML I X i)∧∀ i,gv.ownBlock=some i→¬ML I X i
 gn:I9 wr B2 4 gv (g.map .bool)
 ga:∀ i,gv.ownBlock=some i→¬HL hb b S i
 ai:AI M ny old R K
 hi:Holds J M
 wf:D5 I
 rl:I.roots.length=R
 len:I.V.length≤5000*k
 gl:I.weak.length=g.length+d
 gd:∀ i,g[i]?=some true→M.weak.getD i 0=2
 ids:∀ x∈I.ids,1≤x.2
 n1:1≤nx
 low:w.heap.size≤B∧w.heap.size≤B2
 ext:A0 w wr
section
variable {w wr w1 w':World} {B hb b B2 mb:Nat} {ten old:Int} {R k K d:Nat} {M M2:A7} {S S2:C8} {I I2 J:B4} {nx nx2 ny n:Int} {g g':List Bool} {gv:Value} {X:Q7} {e:Ending} {ak:AK} {x:E4} {is:Bool}
theorem AI.monoD {M:A7} {nx old:Int} {R k j:Nat} (h:AI M nx old R k) (hk:k≤j):AI M nx old R j :=
 ⟨h.inv,h.old,h.roots,Nat.le_trans h.weak hk,Nat.le_trans h.ids hk,by have:=h.nx;omega⟩
theorem V5.at (t:V5 w wr B hb b B2 mb ten old R k K d M S J ny I nx g gv) (hx:A0 wr w1):V5 w w1 B hb b B2 mb ten old R k K d M S J ny I nx g gv:=by
 obtain⟨X,e,hR,ha,hg⟩:=t.md;exact⟨t.oh.ext hx,⟨X,e,hR.ext hx,ha,hg⟩,t.gn.ext hx,t.ga,t.ai,t.hi,t.wf,t.rl,t.len,t.gl,t.gd,t.ids,t.n1,t.low,t.ext.trans_ hx⟩
theorem V5.up (t:V5 w wr B hb b B2 mb ten old R k K d M S J ny I nx g gv) {k' K':Nat} (h1:k≤k') (h2:K≤K'):V5 w wr B hb b B2 mb ten old R k' K' d M S J ny I nx g gv :=
 ⟨t.oh,t.md,t.gn,t.ga,t.ai.monoD h2,t.hi,t.wf,t.rl,by have:=t.len;omega,t.gl,t.gd,t.ids,t.n1,t.low,t.ext⟩
theorem Holds.wlen {I:B4} {M:A7} (h:Holds I M):M.weak.length=I.weak.length:=by
 obtain⟨D,f,hr⟩:=h;have:=hr.lenK;omega
theorem V5.act (t:V5 w wr B hb b B2 mb ten old R k K 0 M S I nx I nx g gv) (h1:E7 w1 B hb b M2 S2 ten nx2) (h2:D7 hb b wr S w1 S2) (h3:AI M2 nx2 old R (K+1)) (h4:Holds I2 M2) (hwk:J2 M M2):V5 w w1 B hb b B2 mb ten old R k (K+1) 0 M2 S2 I2 nx2 I nx g gv:=by
 obtain⟨X,e,hR,ha,hg⟩:=t.md;have hap:∀ i,HL hb b S2 i→¬ML I X i:=fun i hi hm=>by
  rcases h2.own i hi with q|q
  ·exact ha i q hm
  ·have:=(hR.own hm).2;omega
 have hga:∀ i,gv.ownBlock=some i→¬HL hb b S2 i:=fun i hi hl=>by
  rcases h2.own i hl with q|q
  ·exact t.ga i hi q
  ·have:=(t.gn.lt hi).2;omega
 refine⟨h1,⟨X,e,hR.keep h2.keep ha,hap,hg⟩,t.gn.keep h2.keep (fun i hi hl=>t.ga i hi hl),hga,h3,h4,t.wf,t.rl,t.len,t.gl,fun i hi=>hwk.2 i ?_ (t.gd i hi),t.ids,t.n1,t.low,D7.extB t.ext t.low.1 t.oh h2⟩;rw[t.hi.wlen,t.gl];have:=(List.getElem?_eq_some_iff.1 hi).1;omega
theorem V5.do (t:V5 w wr B hb b B2 mb ten old R k K 0 M S J ny I nx g gv) (hX:X.mb=mb) (hR:E9 wr B2 I nx X) (ha:∀ i,HL hb b S i→¬ML I X i) (hg:∀ i,gv.ownBlock=some i→¬ML I X i) (hp:Y4 wr B2 I X J ny n e w') (hJ:D5 J) (hrl:J.roots.length=I.roots.length) (hlen:J.V.length≤I.V.length+5000)
  (hwl:J.weak.length=I.weak.length+d) (hids:∀ x∈J.ids,1≤x.2) (hny:1≤ny):e=.returned (.int .i64 n)∧V5 w w' B hb b B2 mb ten old R (k+1) K d M S J ny J ny g gv:=by
 obtain⟨he,X',hm,hR',hk,hf⟩:=hp;refine⟨he,t.oh.away hk (fun i hi hl=>ha i hl hi),⟨X',hm.trans hX,hR',fun i hl hm'=>?_,fun i hl hm'=>?_⟩,t.gn.keep hk hg,t.ga,t.ai,t.hi,hJ,hrl.trans t.rl,by have:=t.len;omega,by have:=t.gl;omega,t.gd,hids,hny,t.low,A0.keep t.ext hk fun i hi=>by have:=(hR.own hi).1;have:=t.low.2;omega⟩
 ·rcases hf i hm' with q|q
  ·exact ha i hl q
  ·have:=(t.oh.own hl).2;omega
 ·rcases hf i hm' with q|q
  ·exact hg i hl q
  ·have:=(t.gn.lt hl).2;omega
theorem V5.look (t:V5 w wr B hb b B2 mb ten old R k K 0 M S J nx I nx g gv) (hX:X.mb=mb) (hR:E9 wr B2 I nx X) (ha:∀ i,HL hb b S i→¬ML I X i) (hg:∀ i,gv.ownBlock=some i→¬ML I X i) (hp:B5q wr B2 B2 I X gv g' J nx e w') (hJ:D5 J) (hrl:J.roots.length=I.roots.length) (hlen:J.V.length≤I.V.length+5000)
  (hwl:J.weak.length=I.weak.length) (hids:∀ x∈J.ids,1≤x.2) (hgl:g'.length=g.length) (hgd:∀ i,g'[i]?=some true→M.weak.getD i 0=2):e=.returned (.bool true)∧V5 w w' B hb b B2 mb ten old R (k+1) K 0 M S J nx J nx g' gv:=by
 obtain⟨he,wm,hk1,hT,hRm,-,X',hm,hR',hk,hf⟩:=hp;have hx1:A0 w wm:=A0.keep t.ext hk1 fun i hi=>by have:=(t.gn.lt hi).1;have:=t.low.2;omega
 have o1:=t.oh.away hk1 (fun i hi hl=>t.ga i hi hl);have hsz:=hk1.size;refine⟨he,o1.away hk (fun i hi hl=>ha i hl hi),⟨X',hm.trans hX,hR',fun i hl hm'=>?_,fun i hl hm'=>?_⟩,hT,t.ga,t.ai,t.hi,hJ,hrl.trans t.rl,by have:=t.len;omega,by have:=t.gl;omega,hgd,hids,t.n1,t.low,A0.keep hx1 hk fun i hi=>by have:=(hRm.own hi).1;have:=t.low.2;omega⟩
 ·rcases hf i hm' with q|q
  ·exact ha i hl q
  ·have:=(o1.own hl).2;omega
 ·rcases hf i hm' with q|q
  ·exact hg i hl q
  ·have:=(t.gn.lt hl).2;omega
theorem V5.mark (t:V5 w wr B hb b B2 mb ten old R k K 1 M S I nx I nx g gv) {v':Value} (hk:A8 (fun i=>gv.ownBlock=some i) wr w') (hT:I9 w' B2 4 v' (g.map .bool++[.bool false])) (hn:∀ i,v'.ownBlock=some i→gv.ownBlock=some i∨wr.heap.size≤i):V5 w w' B hb b B2 mb ten old R k K 0 M S I nx I nx (g++[false]) v':=by
 obtain⟨X,e,hR,ha,hg⟩:=t.md;refine⟨t.oh.away hk (fun i hi hl=>t.ga i hi hl),⟨X,e,hR.keep hk hg,ha,fun i hi hm=>?_⟩,by rw[List.map_append];exact hT,fun i hi hl=>?_,t.ai,t.hi,t.wf,t.rl,t.len,by have:=t.gl;simp;omega,fun i hi=>?_,t.ids,t.n1,t.low,A0.keep t.ext hk fun i hi=>by have:=(t.gn.lt hi).1;have:=t.low.2;omega⟩
 ·rcases hn i hi with q|q
  ·exact hg i q hm
  ·have:=(hR.own hm).2;omega
 ·rcases hn i hi with q|q
  ·exact t.ga i q hl
  ·have:=(t.oh.own hl).2;omega
 ·by_cases q:i<g.length
  ·rw[List.getElem?_append_left q] at hi;exact t.gd i hi
  ·rw[List.getElem?_append_right (by omega)] at hi;rcases Nat.eq_zero_or_pos (i-g.length) with z|z
   ·rw[z] at hi;simp at hi
   ·rw[List.getElem?_eq_none (by simp;omega)] at hi;cases hi
theorem C4y (hids:∀ x∈I.ids,1≤x.2) (hn:1≤nx):(∀ y∈(doN I nx ak x is).1.ids,1≤y.2)∧1≤(doN I nx ak x is).2:=by
 have hint:∀ r v,(I.int r v).ids=I.ids:=fun r v=>by unfold B4.int;split<;>rfl
 cases ak with
 | serial =>
  show (∀ y∈(A4k I nx x).1.ids,1≤y.2)∧1≤(A4k I nx x).2;unfold A4k
  split
  ·exact⟨hids,hn⟩
  ·refine⟨fun y hy=>?_,by show 1≤nx+1;omega⟩;rcases List.mem_append.1 (show y∈I.ids++[_] from hy) with q|q
   ·exact hids y q
   ·rw[List.mem_singleton.1 q];exact hn
 | int=>exact⟨fun y hy=>hids y (by have:y∈(I.int x.a.toNat x.n).ids:=hy;rwa [hint] at this),hn⟩
 | _=>exact⟨hids,hn⟩
theorem C4z (hk:ak≠.weak):(doN I nx ak x is).1.weak.length=I.weak.length:=by
 have hint:∀ r v,(I.int r v).weak=I.weak:=fun r v=>by unfold B4.int;split<;>rfl
 cases ak with
 | serial =>
  show (A4k I nx x).1.weak.length=_;unfold A4k
  split<;>rfl
 | int=>show (I.int x.a.toNat x.n).weak.length=_;rw[hint]
 | weak=>exact absurd rfl hk
 | _=>rfl
theorem D8n:(doN I nx .weak x is).1.weak.length=I.weak.length+1:=by
 show (I.weak++[_]).length=_;simp
end
end Go.Proofs.YtelhoppfidibiaaGreatDoor
namespace Go.Proofs.YtelhoppfidibiaaGreatDoor
open Go.RowKit
section
variable {B:Nat} {I:B4} {nx:Int} {X:Q7}
theorem D8u (x:E4) (w:World) (hM:E9 w B I nx X) (hw:D5 I) (hl:I.V.length≤1000000000) (he:I5 I .minor x=0):Calls Zi 18 #[.pointer (some ⟨X.mb,0,none⟩),.agg #[.string ⟨#[109,105,110,111,114]⟩,.int .i64 x.a,.int .i64 x.b,.int .i64 x.c,.int .i64 x.n,.string x.s]] w (Y4 w B I X (Z8 I .minor x false) nx 0):=by
 have HM:=Hz hM;clear hM hw hl he
 go_enter Tryz.func18,Tryz.ntmps18
 go_wp2;go_ret;exact⟨rfl,X,rfl,HM.out.ext eX,A8.of_ext eX,fun k q=>Or.inl q⟩
theorem D8s (x:E4) (w:World) (hM:E9 w B I nx X) (hw:D5 I) (hl:I.V.length≤1000000000) (he:I5 I .major x=0):Calls Zi 18 #[.pointer (some ⟨X.mb,0,none⟩),.agg #[.string ⟨#[109,97,106,111,114]⟩,.int .i64 x.a,.int .i64 x.b,.int .i64 x.c,.int .i64 x.n,.string x.s]] w (Y4 w B I X (Z8 I .major x false) nx 0):=by
 have HM:=Hz hM;clear hM hw hl he
 go_enter Tryz.func18,Tryz.ntmps18
 go_wp2;go_ret;exact⟨rfl,X,rfl,HM.out.ext eX,A8.of_ext eX,fun k q=>Or.inl q⟩
theorem E6j (x:E4) (w:World) (hM:E9 w B I nx X) (hw:D5 I) (hl:I.V.length≤1000000000) (hv:F0 x.n) (hnx:1≤nx∧nx≤1000000) (hs1:∀ x∈I.ids,1≤x.2) (hwl:I.weak.length<5000) (hk:E8 x.nm≠.other) (hk2:E8 x.nm≠.look) (he:I5 I (E8 x.nm) x=0) :
  Calls Zi 18 #[.pointer (some ⟨X.mb,0,none⟩),.agg #[.string x.nm,.int .i64 x.a,.int .i64 x.b,.int .i64 x.c,.int .i64 x.n,.string x.s]] w (Y4 w B I X (doN I nx (E8 x.nm) x false).1 (doN I nx (E8 x.nm) x false).2 (A8n I nx (E8 x.nm) x)):=by
 by_cases n0:x.nm=⟨#[105,110,116]⟩
 ·have e:E8 x.nm=.int:=by rw[n0];rfl
  rw[e] at he ⊢;rw[n0];exact D8r x w hM hw hl hv he
 by_cases n1:x.nm=⟨#[99,111,110,115,116]⟩
 ·have e:E8 x.nm=.const:=by rw[n1];rfl
  rw[e] at he ⊢;rw[n1];exact D8o x w hM hw hl he
 by_cases n2:x.nm=⟨#[116,101,120,116]⟩
 ·have e:E8 x.nm=.text:=by rw[n2];rfl
  rw[e] at he ⊢;rw[n2];exact D8z x w hM hw hl he
 by_cases n3:x.nm=⟨#[109,97,107,101]⟩
 ·have e:E8 x.nm=.make:=by rw[n3];rfl
  rw[e] at he ⊢;rw[n3];exact D8t x w hM hw hl he
 by_cases n4:x.nm=⟨#[99,111,112,121]⟩
 ·have e:E8 x.nm=.copy:=by rw[n4];rfl
  rw[e] at he ⊢;rw[n4];exact D8p x w hM hw hl he
 by_cases n5:x.nm=⟨#[103,101,116]⟩
 ·have e:E8 x.nm=.get:=by rw[n5];rfl
  rw[e] at he ⊢;rw[n5];exact D8q x w hM hw hl he
 by_cases n6:x.nm=⟨#[112,117,116]⟩
 ·have e:E8 x.nm=.put:=by rw[n6];rfl
  rw[e] at he ⊢;rw[n6];exact D8v x w hM hw hl he
 by_cases n7:x.nm=⟨#[109,105,110,111,114]⟩
 ·have e:E8 x.nm=.minor:=by rw[n7];rfl
  rw[e] at he ⊢;rw[n7];exact D8u x w hM hw hl he
 by_cases n8:x.nm=⟨#[109,97,106,111,114]⟩
 ·have e:E8 x.nm=.major:=by rw[n8];rfl
  rw[e] at he ⊢;rw[n8];exact D8s x w hM hw hl he
 by_cases n9:x.nm=⟨#[115,101,114,105,97,108]⟩
 ·have e:E8 x.nm=.serial:=by rw[n9];rfl
  rw[e] at he ⊢;rw[n9];exact D8y x w hM hw hl hnx hs1 he
 by_cases n10:x.nm=⟨#[119,101,97,107]⟩
 ·have e:E8 x.nm=.weak:=by rw[n10];rfl
  rw[e] at he ⊢;rw[n10];exact D9a x w hM hw hl hwl he
 by_cases n11:x.nm=⟨#[108,111,111,107]⟩
 ·exact absurd (by rw[n11];rfl) hk2
 exact absurd (by unfold E8;rw[if_neg n0,if_neg n1,if_neg n2,if_neg n3,if_neg n4,if_neg n5,if_neg n6,if_neg n7,if_neg n8,if_neg n9,if_neg n10,if_neg n11]) hk
end
end Go.Proofs.YtelhoppfidibiaaGreatDoor
namespace Go.Proofs.YtelhoppfidibiaaGreatDoor
open Go.RowKit
def A0v (nm:ByteArray) (ak:AK):Prop:=∀ (x:E4) (mv:Value) (w:World),(ak=.text→x.s.size≤2000)→(ak=.make→0≤x.c∧x.c≤4096)→Calls Zi 32 #[mv,.agg #[.string nm,.int .i64 x.a,.int .i64 x.b,.int .i64 x.c,.int .i64 x.n,.string x.s]] w fun e w'=>e=.returned (.int .i64 (U5 ak x))∧A0 w w'
theorem E7h:A0v ⟨#[105,110,116]⟩ .int:=by
 intro x mv w ht hm;rw[C0h]
 cases hs:U2 x.n
 all_goals
  go_enter Tryz.func32,Tryz.ntmps32
  go_wp2_with (go_at_call 52;refine (C1b x.n _).mono ?_;rintro e w1 ⟨he,hq⟩;rw[hs] at he;subst he;have HX1:Hid (A0 w w1):=((A0.refl w).alloc_ _).trans_ hq;clear hq)
  go_ret;exact⟨rfl,HX1.out⟩
theorem E7e:A0v ⟨#[99,111,110,115,116]⟩ .const:=by
 intro x mv w ht hm
 go_enter Tryz.func32,Tryz.ntmps32
 go_wp2;go_ret;exact⟨rfl,eX⟩
theorem E7o:A0v ⟨#[116,101,120,116]⟩ .text:=by
 intro x mv w ht hm;have hz:x.s.size≤2000:=ht rfl;have f3:IntKind.i64.wrap ((x.s.size:Int)+7)=(x.s.size:Int)+7:=Ze _ (by omega);have f4:((x.s.size:Int)+7).tdiv 8=((x.s.size:Int)+7)/8:=Int.tdiv_eq_ediv_of_nonneg (by omega);obtain⟨q,hq⟩:∃ q:Nat,(x.s.size+7)/8=q:=⟨_,rfl⟩;have hqz:((x.s.size:Int)+7)/8=(q:Int):=by omega
 rw[hqz] at f4;have f5:IntKind.i64.wrap (q:Int)=(q:Int):=Ze _ (by omega);have f6:IntKind.i64.wrap (2+(q:Int))=2+(q:Int):=Ze _ (by omega);rw[show U5 .text x=2+(q:Int) by rw[C0i];omega];clear hqz hq ht hm
 go_enter Tryz.func32,Tryz.ntmps32
 go_wp2;go_ret;exact⟨rfl,eX⟩
theorem E7k:A0v ⟨#[109,97,107,101]⟩ .make:=by
 intro x mv w ht hm;have hz:=hm rfl;have f3:IntKind.i64.wrap (1+x.c)=1+x.c:=Ze _ (by omega);have hn:U5 .make x=1+x.c:=rfl;clear ht hm
 go_enter Tryz.func32,Tryz.ntmps32
 go_wp2;go_ret;exact⟨rfl,eX⟩
theorem E7f:A0v ⟨#[99,111,112,121]⟩ .copy:=by
 intro x mv w ht hm
 go_enter Tryz.func32,Tryz.ntmps32
 go_wp2;go_ret;exact⟨rfl,eX⟩
theorem E7g:A0v ⟨#[103,101,116]⟩ .get:=by
 intro x mv w ht hm
 go_enter Tryz.func32,Tryz.ntmps32
 go_wp2;go_ret;exact⟨rfl,eX⟩
theorem E7m:A0v ⟨#[112,117,116]⟩ .put:=by
 intro x mv w ht hm
 go_enter Tryz.func32,Tryz.ntmps32
 go_wp2;go_ret;exact⟨rfl,eX⟩
theorem E7l:A0v ⟨#[109,105,110,111,114]⟩ .minor:=by
 intro x mv w ht hm
 go_enter Tryz.func32,Tryz.ntmps32
 go_wp2;go_ret;exact⟨rfl,eX⟩
theorem E7j:A0v ⟨#[109,97,106,111,114]⟩ .major:=by
 intro x mv w ht hm
 go_enter Tryz.func32,Tryz.ntmps32
 go_wp2;go_ret;exact⟨rfl,eX⟩
theorem E7n:A0v ⟨#[115,101,114,105,97,108]⟩ .serial:=by
 intro x mv w ht hm
 go_enter Tryz.func32,Tryz.ntmps32
 go_wp2;go_ret;exact⟨rfl,eX⟩
theorem E7p:A0v ⟨#[119,101,97,107]⟩ .weak:=by
 intro x mv w ht hm
 go_enter Tryz.func32,Tryz.ntmps32
 go_wp2;go_ret;exact⟨rfl,eX⟩
theorem E7i:A0v ⟨#[108,111,111,107]⟩ .look:=by
 intro x mv w ht hm
 go_enter Tryz.func32,Tryz.ntmps32
 go_wp2;go_ret;exact⟨rfl,eX⟩
theorem E6m (x:E4) (mv:Value) (w:World) (hk:E8 x.nm≠.other) (ht:E8 x.nm=.text→x.s.size≤2000) (hm:E8 x.nm=.make→0≤x.c∧x.c≤4096):Calls Zi 32 #[mv,.agg #[.string x.nm,.int .i64 x.a,.int .i64 x.b,.int .i64 x.c,.int .i64 x.n,.string x.s]] w fun e w'=>e=.returned (.int .i64 (U5 (E8 x.nm) x))∧A0 w w':=by
 by_cases n0:x.nm=⟨#[105,110,116]⟩
 ·have e:E8 x.nm=.int:=by rw[n0];rfl
  rw[e] at ht hm ⊢;rw[n0];exact E7h x mv w ht hm
 by_cases n1:x.nm=⟨#[99,111,110,115,116]⟩
 ·have e:E8 x.nm=.const:=by rw[n1];rfl
  rw[e] at ht hm ⊢;rw[n1];exact E7e x mv w ht hm
 by_cases n2:x.nm=⟨#[116,101,120,116]⟩
 ·have e:E8 x.nm=.text:=by rw[n2];rfl
  rw[e] at ht hm ⊢;rw[n2];exact E7o x mv w ht hm
 by_cases n3:x.nm=⟨#[109,97,107,101]⟩
 ·have e:E8 x.nm=.make:=by rw[n3];rfl
  rw[e] at ht hm ⊢;rw[n3];exact E7k x mv w ht hm
 by_cases n4:x.nm=⟨#[99,111,112,121]⟩
 ·have e:E8 x.nm=.copy:=by rw[n4];rfl
  rw[e] at ht hm ⊢;rw[n4];exact E7f x mv w ht hm
 by_cases n5:x.nm=⟨#[103,101,116]⟩
 ·have e:E8 x.nm=.get:=by rw[n5];rfl
  rw[e] at ht hm ⊢;rw[n5];exact E7g x mv w ht hm
 by_cases n6:x.nm=⟨#[112,117,116]⟩
 ·have e:E8 x.nm=.put:=by rw[n6];rfl
  rw[e] at ht hm ⊢;rw[n6];exact E7m x mv w ht hm
 by_cases n7:x.nm=⟨#[109,105,110,111,114]⟩
 ·have e:E8 x.nm=.minor:=by rw[n7];rfl
  rw[e] at ht hm ⊢;rw[n7];exact E7l x mv w ht hm
 by_cases n8:x.nm=⟨#[109,97,106,111,114]⟩
 ·have e:E8 x.nm=.major:=by rw[n8];rfl
  rw[e] at ht hm ⊢;rw[n8];exact E7j x mv w ht hm
 by_cases n9:x.nm=⟨#[115,101,114,105,97,108]⟩
 ·have e:E8 x.nm=.serial:=by rw[n9];rfl
  rw[e] at ht hm ⊢;rw[n9];exact E7n x mv w ht hm
 by_cases n10:x.nm=⟨#[119,101,97,107]⟩
 ·have e:E8 x.nm=.weak:=by rw[n10];rfl
  rw[e] at ht hm ⊢;rw[n10];exact E7p x mv w ht hm
 by_cases n11:x.nm=⟨#[108,111,111,107]⟩
 ·have e:E8 x.nm=.look:=by rw[n11];rfl
  rw[e] at ht hm ⊢;rw[n11];exact E7i x mv w ht hm
 exact absurd (by unfold E8;rw[if_neg n0,if_neg n1,if_neg n2,if_neg n3,if_neg n4,if_neg n5,if_neg n6,if_neg n7,if_neg n8,if_neg n9,if_neg n10,if_neg n11]) hk
def B2z (w:World) (p:Nat) (s:ByteArray) (a b c n:Int) (t:ByteArray):Prop:=w.cell? ⟨p,0,none⟩=some (.string s)∧w.cell? ⟨p,1,none⟩=some (.int .i64 a)∧w.cell? ⟨p,2,none⟩=some (.int .i64 b)∧w.cell? ⟨p,3,none⟩=some (.int .i64 c)∧w.cell? ⟨p,4,none⟩=some (.int .i64 n)∧w.cell? ⟨p,5,none⟩=some (.string t)
theorem B2z.ext {w w':World} {p:Nat} {s t:ByteArray} {a b c n:Int} (h:B2z w p s a b c n t) (k:A0 w w'):B2z w' p s a b c n t:=by
 obtain⟨h0,h1,h2,h3,h4,h5⟩:=h;exact⟨k.cell_ h0,k.cell_ h1,k.cell_ h2,k.cell_ h3,k.cell_ h4,k.cell_ h5⟩
theorem rt2 {B:Nat} {I:B4} {nx:Int} {X:Q7} {w w2:World} {rn:Nat} {u:Int} {p:Addr} {v:Value} (hM:E9 w B I nx X) (hx:A0 w w2) (hr:rn<I.roots.length) (hu:I.roots.getD rn 0=u) (b0:w2.cell? p=some v):E9 w2 B I nx X∧w2.cell? ⟨X.mb,0,none⟩=some (.slice (some ⟨X.G,0,none⟩) I.roots.length I.roots.length)∧A5r w2 X.G (rn*3) X.pl u∧p.block<w2.heap.size∧X.mb<w2.heap.size∧X.G<w2.heap.size∧(rn:Int)<(I.roots.length:Int):=by
 have h:=hM.ext hx;have c:=h.root rn hr;rw[hu] at c;exact⟨h,h.roots,c,B9 b0,A6f h.mblk,A6f h.gblk,by omega⟩
theorem obq {w:World} {p:Nat} {s t:ByteArray} {a b c n:Int} (h:B2z w p s a b c n t:=by refine⟨?_,?_,?_,?_,?_,?_⟩<;>simp[go_sem]):B2z w p s a b c n t:=h
def A0w (w:World) (X:Q7) (I:B4) (s:ByteArray) (x:E4):Prop:=∀ r a v w',E5 I r=v→A0 w w'→B2z w' w.heap.size s a x.b x.c x.n x.s→Calls Zi 74 #[.pointer (some ⟨X.mb,0,none⟩),.int .i64 r] w' fun e w''=>e=.returned (.bool v)∧Hid (A0 w w'')∧B2z w'' w.heap.size s a x.b x.c x.n x.s
theorem A5o {B:Nat} {I:B4} {nx:Int} {X:Q7} {w:World} (hM:E9 w B I nx X) (s:ByteArray) (x:E4):A0w w X I s x:=fun r a v w' hv hx ho =>
 (E6n w' B I nx X (hM.ext hx) r).mono fun e w'' ⟨h1,h2⟩=>⟨by rw[←hv];exact h1,hx.trans_ h2,ho.ext h2⟩
def A0r (B:Nat) (I:B4) (nx:Int) (X:Q7) (nm:ByteArray) (ak:AK):Prop:=∀ (x:E4) (w:World),Hid (E9 w B I nx X)→Hid (D5 I)→I.V.length≤1000000000→I.weak.length<5000→Hid (A0w w X I nm x)→Calls Zi 30 #[.pointer (some ⟨X.mb,0,none⟩),.agg #[.string nm,.int .i64 x.a,.int .i64 x.b,.int .i64 x.c,.int .i64 x.n,.string x.s]] w fun e w'=>e=.returned (.int .i64 (I5 I ak x))∧A0 w w'
section
variable {B:Nat} {I:B4} {nx:Int} {X:Q7}
theorem D9l:A0r B I nx X ⟨#[105,110,116]⟩ .int:=by
 intro x w HM HW hl hwl HRT
 cases ra:E5 I x.a
 all_goals
  rw[show I5 I .int x=if E5 I x.a then 0 else 5 from rfl,ra]
  go_enter Tryz.func30,Tryz.ntmps30
  go_wp2_with (go_at_call 74;refine (HRT.out x.a x.a _ _ ra eX obq).mono ?_;rintro e w1 ⟨rfl,HX1,b0,b1,b2,b3,b4,b5⟩)
  go_ret;exact⟨rfl,HX1.out⟩
theorem D9i:A0r B I nx X ⟨#[99,111,110,115,116]⟩ .const:=by
 intro x w HM HW hl hwl HRT
 cases ra:E5 I x.a with
 | false =>
  rw[A9a,ra]
  go_enter Tryz.func30,Tryz.ntmps30
  go_wp2_with (go_at_call 74;refine (HRT.out x.a x.a _ _ ra eX obq).mono ?_;rintro e w1 ⟨rfl,HX1,b0,b1,b2,b3,b4,b5⟩)
  go_ret;exact⟨rfl,HX1.out⟩
 | true =>
  have h3:(0≤x.b∧x.b≤2)∨x.b<0∨(¬x.b<0∧2<x.b):=by omega
  rw[A9a,ra];simp only[if_true];rcases h3 with h|h|⟨h,h'⟩
  ·rw[if_pos h];obtain⟨h1,h2⟩:=h;have h1':¬x.b<0:=by omega
   have h2':¬2<x.b:=by omega
   go_enter Tryz.func30,Tryz.ntmps30
   go_wp2_with (go_at_call 74;refine (HRT.out x.a x.a _ _ ra eX obq).mono ?_;rintro e w1 ⟨rfl,HX1,b0,b1,b2,b3,b4,b5⟩)
   go_ret;exact⟨rfl,HX1.out⟩
  ·rw[if_neg (by omega)]
   go_enter Tryz.func30,Tryz.ntmps30
   go_wp2_with (go_at_call 74;refine (HRT.out x.a x.a _ _ ra eX obq).mono ?_;rintro e w1 ⟨rfl,HX1,b0,b1,b2,b3,b4,b5⟩)
   go_ret;exact⟨rfl,HX1.out⟩
  ·rw[if_neg (by omega)]
   go_enter Tryz.func30,Tryz.ntmps30
   go_wp2_with (go_at_call 74;refine (HRT.out x.a x.a _ _ ra eX obq).mono ?_;rintro e w1 ⟨rfl,HX1,b0,b1,b2,b3,b4,b5⟩)
   go_ret;exact⟨rfl,HX1.out⟩
theorem D9s:A0r B I nx X ⟨#[116,101,120,116]⟩ .text:=by
 intro x w HM HW hl hwl HRT
 cases ra:E5 I x.a with
 | false =>
  rw[A7y,ra]
  go_enter Tryz.func30,Tryz.ntmps30
  go_wp2_with (go_at_call 74;refine (HRT.out x.a x.a _ _ ra eX obq).mono ?_;rintro e w1 ⟨rfl,HX1,b0,b1,b2,b3,b4,b5⟩)
  go_ret;exact⟨rfl,HX1.out⟩
 | true =>
  rw[A7y,ra];simp only[if_true];by_cases h:x.s.size≤2000
  ·rw[if_pos h];have h1:¬(2000:Int)<(x.s.size:Int):=by omega
   go_enter Tryz.func30,Tryz.ntmps30
   go_wp2_with (go_at_call 74;refine (HRT.out x.a x.a _ _ ra eX obq).mono ?_;rintro e w1 ⟨rfl,HX1,b0,b1,b2,b3,b4,b5⟩)
   go_ret;exact⟨rfl,HX1.out⟩
  ·rw[if_neg h];have h1:(2000:Int)<(x.s.size:Int):=by omega
   go_enter Tryz.func30,Tryz.ntmps30
   go_wp2_with (go_at_call 74;refine (HRT.out x.a x.a _ _ ra eX obq).mono ?_;rintro e w1 ⟨rfl,HX1,b0,b1,b2,b3,b4,b5⟩)
   go_ret;exact⟨rfl,HX1.out⟩
theorem D9o:A0r B I nx X ⟨#[109,97,107,101]⟩ .make:=by
 intro x w HM HW hl hwl HRT
 cases ra:E5 I x.a with
 | false =>
  rw[A7x,ra]
  go_enter Tryz.func30,Tryz.ntmps30
  go_wp2_with (go_at_call 74;refine (HRT.out x.a x.a _ _ ra eX obq).mono ?_;rintro e w1 ⟨rfl,HX1,b0,b1,b2,b3,b4,b5⟩)
  go_ret;exact⟨rfl,HX1.out⟩
 | true =>
  rw[A7x,ra];simp only[if_true];have h5:(8≤x.b∧x.b≤255∧0≤x.c∧x.c≤4096)∨x.b<8∨(¬x.b<8∧255<x.b)∨(¬x.b<8∧¬255<x.b∧x.c<0)∨(¬x.b<8∧¬255<x.b∧¬x.c<0∧4096<x.c):=by omega
  rcases h5 with⟨h1,h2,h3,h4⟩|h|⟨h,h'⟩|⟨h,h',h2⟩|⟨h,h',h2,h3⟩
  ·rw[if_neg (by omega)];have g1:¬x.b<8:=by omega
   have g2:¬255<x.b:=by omega
   have g3:¬x.c<0:=by omega
   have g4:¬4096<x.c:=by omega
   go_enter Tryz.func30,Tryz.ntmps30
   go_wp2_with (go_at_call 74;refine (HRT.out x.a x.a _ _ ra eX obq).mono ?_;rintro e w1 ⟨rfl,HX1,b0,b1,b2,b3,b4,b5⟩)
   go_ret;exact⟨rfl,HX1.out⟩
  ·rw[if_pos (by omega)]
   go_enter Tryz.func30,Tryz.ntmps30
   go_wp2_with (go_at_call 74;refine (HRT.out x.a x.a _ _ ra eX obq).mono ?_;rintro e w1 ⟨rfl,HX1,b0,b1,b2,b3,b4,b5⟩)
   go_ret;exact⟨rfl,HX1.out⟩
  ·rw[if_pos (by omega)]
   go_enter Tryz.func30,Tryz.ntmps30
   go_wp2_with (go_at_call 74;refine (HRT.out x.a x.a _ _ ra eX obq).mono ?_;rintro e w1 ⟨rfl,HX1,b0,b1,b2,b3,b4,b5⟩)
   go_ret;exact⟨rfl,HX1.out⟩
  ·rw[if_pos (by omega)]
   go_enter Tryz.func30,Tryz.ntmps30
   go_wp2_with (go_at_call 74;refine (HRT.out x.a x.a _ _ ra eX obq).mono ?_;rintro e w1 ⟨rfl,HX1,b0,b1,b2,b3,b4,b5⟩)
   go_ret;exact⟨rfl,HX1.out⟩
  ·rw[if_pos (by omega)]
   go_enter Tryz.func30,Tryz.ntmps30
   go_wp2_with (go_at_call 74;refine (HRT.out x.a x.a _ _ ra eX obq).mono ?_;rintro e w1 ⟨rfl,HX1,b0,b1,b2,b3,b4,b5⟩)
   go_ret;exact⟨rfl,HX1.out⟩
theorem D9j:A0r B I nx X ⟨#[99,111,112,121]⟩ .copy:=by
 intro x w HM HW hl hwl HRT;rw[B3p]
 cases ra:E5 I x.a
 ·simp only[Zc]
  go_enter Tryz.func30,Tryz.ntmps30
  go_wp2_with (go_at_call 74;refine (HRT.out x.a x.a _ _ ra eX obq).mono ?_;rintro e w1 ⟨rfl,HX1,b0,b1,b2,b3,b4,b5⟩)
  go_ret;exact⟨rfl,HX1.out⟩
 ·cases rb:E5 I x.b
  all_goals
   simp only[Zb,Za,Bool.true_and]
   go_enter Tryz.func30,Tryz.ntmps30
   go_upto_region 9 with (go_at_call 74;refine (HRT.out x.a x.a _ _ ra eX obq).mono ?_;rintro e w1 ⟨rfl,HX1,b0,b1,b2,b3,b4,b5⟩)
   go_wp2_with (go_at_call 74;refine (HRT.out x.b _ _ _ rb HX1.out ⟨b0,b1,b2,b3,b4,b5⟩).mono ?_;clear HX1 b0 b1 b2 b3 b4 b5;rintro e w2 ⟨rfl,HX2,b0,b1,b2,b3,b4,b5⟩)
   go_ret;exact⟨rfl,HX2.out⟩
theorem D9k:A0r B I nx X ⟨#[103,101,116]⟩ .get:=by
 intro x w HM HW hl hwl HRT;rw[B3q]
 cases ra:E5 I x.a
 ·simp only[Zc]
  go_enter Tryz.func30,Tryz.ntmps30
  go_wp2_with (go_at_call 74;refine (HRT.out x.a x.a _ _ ra eX obq).mono ?_;rintro e w1 ⟨rfl,HX1,b0,b1,b2,b3,b4,b5⟩)
  go_ret;exact⟨rfl,HX1.out⟩
 ·cases rb:E5 I x.c
  ·simp only[Za]
   go_enter Tryz.func30,Tryz.ntmps30
   go_upto_region 12 with (go_at_call 74;refine (HRT.out x.a x.a _ _ ra eX obq).mono ?_;rintro e w1 ⟨rfl,HX1,b0,b1,b2,b3,b4,b5⟩)
   go_wp2_with (go_at_call 74;refine (HRT.out x.c _ _ _ rb HX1.out ⟨b0,b1,b2,b3,b4,b5⟩).mono ?_;clear HX1 b0 b1 b2 b3 b4 b5;rintro e w2 ⟨rfl,HX2,b0,b1,b2,b3,b4,b5⟩)
   go_ret;exact⟨rfl,HX2.out⟩
  ·simp only[Zb,if_true];obtain⟨rn,er,hrl⟩:=A0i ra;have hu:=HW.out.root hrl;rw[er] at ra ⊢;unfold A3r;rw[Zd];obtain⟨u,hu'⟩:∃ u,I.roots.getD rn 0=u:=⟨_,rfl⟩;rw[hu'] at hu ⊢;have HU:=Hz hu;clear hu;by_cases hp:0≤B6 u
   ·obtain⟨a,ha⟩:∃ a:Nat,B6 u=(a:Int):=⟨(B6 u).toNat,by omega⟩;have hm:=(P2.pts HW.out hl HU.out ha).1;have e1:S9 u=4:=if_pos hp;have e2:O7 X.pl u=some ⟨X.pl a,0,none⟩:=by unfold O7;rw[if_pos hp,ha,Zd]
    rw[if_pos hp,ha,Zd];have HMm:=Hz hm;have HE1:=Hz e1;have HE2:=Hz e2;clear hp ha hm e1 e2;by_cases h8:B3 (A6 I.V a)<8
    ·rw[show D2 (B3 (A6 I.V a))=true by unfold D2;exact decide_eq_true h8,if_pos rfl]
     go_enter Tryz.func30,Tryz.ntmps30
     go_upto_region 12 with (go_at_call 74;refine (HRT.out (rn:Int) (rn:Int) _ _ ra eX obq).mono ?_;rintro e w1 ⟨rfl,HX1,b0,b1,b2,b3,b4,b5⟩)
     go_upto_region 27 with (go_at_call 74;refine (HRT.out x.c _ _ _ rb HX1.out ⟨b0,b1,b2,b3,b4,b5⟩).mono ?_;clear HX1 b0 b1 b2 b3 b4 b5;rintro e w2 ⟨rfl,HX2,b0,b1,b2,b3,b4,b5⟩)
     obtain⟨hm2,q0,⟨c0,c1,c2⟩,y0,y1,y2,hrz⟩:=rt2 HM.out HX2.out hrl hu' b0;have n0:=(hm2.node a HMm.out).kind;have y3:X.pl a<w2.heap.size:=B9 n0;rw[HE1.out] at c0;rw[HE2.out] at c2;generalize B3 (A6 I.V a)=kd at *
     clear hm2;go_region;go_wp2;go_ret;exact⟨rfl,HX2.out.trans_ eX⟩
    ·rw[show D2 (B3 (A6 I.V a))=false by unfold D2;exact decide_eq_false h8,if_neg (by simp)];have hsz:B5 (A6 I.V a)=(A9 I.V a:Int):=by
      obtain⟨kd,n,e,hk1,hn⟩:=(HW.out.head a HMm.out).hd;obtain⟨d1,d2,d3,d4,d5⟩:=A1t kd 0 0 (n:Int) hk1 (by omega) (by omega) ⟨by omega,by omega⟩;unfold A9;rw[e,d5];omega
     rw[hsz];have hf:A2f X I.V a=.slice (some ⟨X.fl a,0,none⟩) (A9 I.V a) (A9 I.V a):=if_neg h8;have HF:=Hz hf;have h3:x.b<0∨(¬x.b<0∧(A9 I.V a:Int)≤x.b)∨(¬x.b<0∧¬(A9 I.V a:Int)≤x.b):=by omega
     clear hsz hf;rcases h3 with h|⟨h,h'⟩|⟨h,h'⟩
     ·rw[if_neg (by omega)];have hd1:decide (x.b<0)=true:=decide_eq_true h
      go_enter Tryz.func30,Tryz.ntmps30
      go_upto_region 12 with (go_at_call 74;refine (HRT.out (rn:Int) (rn:Int) _ _ ra eX obq).mono ?_;rintro e w1 ⟨rfl,HX1,b0,b1,b2,b3,b4,b5⟩)
      go_upto_region 27 with (go_at_call 74;refine (HRT.out x.c _ _ _ rb HX1.out ⟨b0,b1,b2,b3,b4,b5⟩).mono ?_;clear HX1 b0 b1 b2 b3 b4 b5;rintro e w2 ⟨rfl,HX2,b0,b1,b2,b3,b4,b5⟩)
      obtain⟨hm2,q0,⟨c0,c1,c2⟩,y0,y1,y2,hrz⟩:=rt2 HM.out HX2.out hrl hu' b0;have n0:=(hm2.node a HMm.out).kind;have y3:X.pl a<w2.heap.size:=B9 n0;have n1:=(hm2.node a HMm.out).flds;rw[HF.out] at n1;rw[HE1.out] at c0;rw[HE2.out] at c2;generalize B3 (A6 I.V a)=kd at *
      clear hm2;go_region
      go_upto_region 30 with fail
      go_region;go_wp2;go_ret;exact⟨rfl,HX2.out.trans_ eX⟩
     ·rw[if_neg (by omega)];have hd1:decide (x.b<0)=false:=decide_eq_false h;have hd2:decide ((A9 I.V a:Int)≤x.b)=true:=decide_eq_true h'
      go_enter Tryz.func30,Tryz.ntmps30
      go_upto_region 12 with (go_at_call 74;refine (HRT.out (rn:Int) (rn:Int) _ _ ra eX obq).mono ?_;rintro e w1 ⟨rfl,HX1,b0,b1,b2,b3,b4,b5⟩)
      go_upto_region 27 with (go_at_call 74;refine (HRT.out x.c _ _ _ rb HX1.out ⟨b0,b1,b2,b3,b4,b5⟩).mono ?_;clear HX1 b0 b1 b2 b3 b4 b5;rintro e w2 ⟨rfl,HX2,b0,b1,b2,b3,b4,b5⟩)
      obtain⟨hm2,q0,⟨c0,c1,c2⟩,y0,y1,y2,hrz⟩:=rt2 HM.out HX2.out hrl hu' b0;have n0:=(hm2.node a HMm.out).kind;have y3:X.pl a<w2.heap.size:=B9 n0;have n1:=(hm2.node a HMm.out).flds;rw[HF.out] at n1;rw[HE1.out] at c0;rw[HE2.out] at c2;generalize B3 (A6 I.V a)=kd at *
      clear hm2;go_region
      go_upto_region 30 with fail
      go_region;go_wp2;go_ret;exact⟨rfl,HX2.out.trans_ eX⟩
     ·rw[if_pos (by omega)];have hd1:decide (x.b<0)=false:=decide_eq_false h;have hd2:decide ((A9 I.V a:Int)≤x.b)=false:=decide_eq_false h'
      go_enter Tryz.func30,Tryz.ntmps30
      go_upto_region 12 with (go_at_call 74;refine (HRT.out (rn:Int) (rn:Int) _ _ ra eX obq).mono ?_;rintro e w1 ⟨rfl,HX1,b0,b1,b2,b3,b4,b5⟩)
      go_upto_region 27 with (go_at_call 74;refine (HRT.out x.c _ _ _ rb HX1.out ⟨b0,b1,b2,b3,b4,b5⟩).mono ?_;clear HX1 b0 b1 b2 b3 b4 b5;rintro e w2 ⟨rfl,HX2,b0,b1,b2,b3,b4,b5⟩)
      obtain⟨hm2,q0,⟨c0,c1,c2⟩,y0,y1,y2,hrz⟩:=rt2 HM.out HX2.out hrl hu' b0;have n0:=(hm2.node a HMm.out).kind;have y3:X.pl a<w2.heap.size:=B9 n0;have n1:=(hm2.node a HMm.out).flds;rw[HF.out] at n1;rw[HE1.out] at c0;rw[HE2.out] at c2;generalize B3 (A6 I.V a)=kd at *
      clear hm2;go_region
      go_upto_region 30 with fail
      go_region;go_wp2;go_ret;exact⟨rfl,HX2.out.trans_ eX⟩
   ·rw[if_neg hp];have e1:=(B3l HU.out hp (fun a ha=>by have:=HW.out.dom a ha;omega)).1;have HE1:=Hz e1;clear hp e1
    go_enter Tryz.func30,Tryz.ntmps30
    go_upto_region 12 with (go_at_call 74;refine (HRT.out (rn:Int) (rn:Int) _ _ ra eX obq).mono ?_;rintro e w1 ⟨rfl,HX1,b0,b1,b2,b3,b4,b5⟩)
    go_upto_region 27 with (go_at_call 74;refine (HRT.out x.c _ _ _ rb HX1.out ⟨b0,b1,b2,b3,b4,b5⟩).mono ?_;clear HX1 b0 b1 b2 b3 b4 b5;rintro e w2 ⟨rfl,HX2,b0,b1,b2,b3,b4,b5⟩)
    obtain⟨hm2,q0,⟨c0,c1,c2⟩,y0,y1,y2,hrz⟩:=rt2 HM.out HX2.out hrl hu' b0;have e1:=HE1.out;generalize S9 u=kz at *
    generalize O7 X.pl u=pz at *
    have e4:(kz==4)=false:=by simpa using e1
    clear hm2;go_region;go_wp2;go_ret;exact⟨rfl,HX2.out.trans_ eX⟩
theorem D9q:A0r B I nx X ⟨#[112,117,116]⟩ .put:=by
 intro x w HM HW hl hwl HRT;rw[B3r]
 cases ra:E5 I x.a
 ·simp only[Zc]
  go_enter Tryz.func30,Tryz.ntmps30
  go_wp2_with (go_at_call 74;refine (HRT.out x.a x.a _ _ ra eX obq).mono ?_;rintro e w1 ⟨rfl,HX1,b0,b1,b2,b3,b4,b5⟩)
  go_ret;exact⟨rfl,HX1.out⟩
 ·cases rb:E5 I x.c
  ·simp only[Za]
   go_enter Tryz.func30,Tryz.ntmps30
   go_upto_region 12 with (go_at_call 74;refine (HRT.out x.a x.a _ _ ra eX obq).mono ?_;rintro e w1 ⟨rfl,HX1,b0,b1,b2,b3,b4,b5⟩)
   go_wp2_with (go_at_call 74;refine (HRT.out x.c _ _ _ rb HX1.out ⟨b0,b1,b2,b3,b4,b5⟩).mono ?_;clear HX1 b0 b1 b2 b3 b4 b5;rintro e w2 ⟨rfl,HX2,b0,b1,b2,b3,b4,b5⟩)
   go_ret;exact⟨rfl,HX2.out⟩
  ·simp only[Zb,if_true];obtain⟨rn,er,hrl⟩:=A0i ra;have hu:=HW.out.root hrl;rw[er] at ra ⊢;unfold A3r;rw[Zd];obtain⟨u,hu'⟩:∃ u,I.roots.getD rn 0=u:=⟨_,rfl⟩;rw[hu'] at hu ⊢;have HU:=Hz hu;clear hu;by_cases hp:0≤B6 u
   ·obtain⟨a,ha⟩:∃ a:Nat,B6 u=(a:Int):=⟨(B6 u).toNat,by omega⟩;have hm:=(P2.pts HW.out hl HU.out ha).1;have e1:S9 u=4:=if_pos hp;have e2:O7 X.pl u=some ⟨X.pl a,0,none⟩:=by unfold O7;rw[if_pos hp,ha,Zd]
    rw[if_pos hp,ha,Zd];have HMm:=Hz hm;have HE1:=Hz e1;have HE2:=Hz e2;clear hp ha hm e1 e2;by_cases h8:B3 (A6 I.V a)<8
    ·rw[show D2 (B3 (A6 I.V a))=true by unfold D2;exact decide_eq_true h8,if_pos rfl]
     go_enter Tryz.func30,Tryz.ntmps30
     go_upto_region 12 with (go_at_call 74;refine (HRT.out (rn:Int) (rn:Int) _ _ ra eX obq).mono ?_;rintro e w1 ⟨rfl,HX1,b0,b1,b2,b3,b4,b5⟩)
     go_upto_region 27 with (go_at_call 74;refine (HRT.out x.c _ _ _ rb HX1.out ⟨b0,b1,b2,b3,b4,b5⟩).mono ?_;clear HX1 b0 b1 b2 b3 b4 b5;rintro e w2 ⟨rfl,HX2,b0,b1,b2,b3,b4,b5⟩)
     obtain⟨hm2,q0,⟨c0,c1,c2⟩,y0,y1,y2,hrz⟩:=rt2 HM.out HX2.out hrl hu' b0;have n0:=(hm2.node a HMm.out).kind;have y3:X.pl a<w2.heap.size:=B9 n0;rw[HE1.out] at c0;rw[HE2.out] at c2;generalize B3 (A6 I.V a)=kd at *
     clear hm2;go_region;go_wp2;go_ret;exact⟨rfl,HX2.out.trans_ eX⟩
    ·rw[show D2 (B3 (A6 I.V a))=false by unfold D2;exact decide_eq_false h8,if_neg (by simp)];have hsz:B5 (A6 I.V a)=(A9 I.V a:Int):=by
      obtain⟨kd,n,e,hk1,hn⟩:=(HW.out.head a HMm.out).hd;obtain⟨d1,d2,d3,d4,d5⟩:=A1t kd 0 0 (n:Int) hk1 (by omega) (by omega) ⟨by omega,by omega⟩;unfold A9;rw[e,d5];omega
     rw[hsz];have hf:A2f X I.V a=.slice (some ⟨X.fl a,0,none⟩) (A9 I.V a) (A9 I.V a):=if_neg h8;have HF:=Hz hf;have h3:x.b<0∨(¬x.b<0∧(A9 I.V a:Int)≤x.b)∨(¬x.b<0∧¬(A9 I.V a:Int)≤x.b):=by omega
     clear hsz hf;rcases h3 with h|⟨h,h'⟩|⟨h,h'⟩
     ·rw[if_neg (by omega)];have hd1:decide (x.b<0)=true:=decide_eq_true h
      go_enter Tryz.func30,Tryz.ntmps30
      go_upto_region 12 with (go_at_call 74;refine (HRT.out (rn:Int) (rn:Int) _ _ ra eX obq).mono ?_;rintro e w1 ⟨rfl,HX1,b0,b1,b2,b3,b4,b5⟩)
      go_upto_region 27 with (go_at_call 74;refine (HRT.out x.c _ _ _ rb HX1.out ⟨b0,b1,b2,b3,b4,b5⟩).mono ?_;clear HX1 b0 b1 b2 b3 b4 b5;rintro e w2 ⟨rfl,HX2,b0,b1,b2,b3,b4,b5⟩)
      obtain⟨hm2,q0,⟨c0,c1,c2⟩,y0,y1,y2,hrz⟩:=rt2 HM.out HX2.out hrl hu' b0;have n0:=(hm2.node a HMm.out).kind;have y3:X.pl a<w2.heap.size:=B9 n0;have n1:=(hm2.node a HMm.out).flds;rw[HF.out] at n1;rw[HE1.out] at c0;rw[HE2.out] at c2;generalize B3 (A6 I.V a)=kd at *
      clear hm2;go_region
      go_upto_region 30 with fail
      go_region;go_wp2;go_ret;exact⟨rfl,HX2.out.trans_ eX⟩
     ·rw[if_neg (by omega)];have hd1:decide (x.b<0)=false:=decide_eq_false h;have hd2:decide ((A9 I.V a:Int)≤x.b)=true:=decide_eq_true h'
      go_enter Tryz.func30,Tryz.ntmps30
      go_upto_region 12 with (go_at_call 74;refine (HRT.out (rn:Int) (rn:Int) _ _ ra eX obq).mono ?_;rintro e w1 ⟨rfl,HX1,b0,b1,b2,b3,b4,b5⟩)
      go_upto_region 27 with (go_at_call 74;refine (HRT.out x.c _ _ _ rb HX1.out ⟨b0,b1,b2,b3,b4,b5⟩).mono ?_;clear HX1 b0 b1 b2 b3 b4 b5;rintro e w2 ⟨rfl,HX2,b0,b1,b2,b3,b4,b5⟩)
      obtain⟨hm2,q0,⟨c0,c1,c2⟩,y0,y1,y2,hrz⟩:=rt2 HM.out HX2.out hrl hu' b0;have n0:=(hm2.node a HMm.out).kind;have y3:X.pl a<w2.heap.size:=B9 n0;have n1:=(hm2.node a HMm.out).flds;rw[HF.out] at n1;rw[HE1.out] at c0;rw[HE2.out] at c2;generalize B3 (A6 I.V a)=kd at *
      clear hm2;go_region
      go_upto_region 30 with fail
      go_region;go_wp2;go_ret;exact⟨rfl,HX2.out.trans_ eX⟩
     ·rw[if_pos (by omega)];have hd1:decide (x.b<0)=false:=decide_eq_false h;have hd2:decide ((A9 I.V a:Int)≤x.b)=false:=decide_eq_false h'
      go_enter Tryz.func30,Tryz.ntmps30
      go_upto_region 12 with (go_at_call 74;refine (HRT.out (rn:Int) (rn:Int) _ _ ra eX obq).mono ?_;rintro e w1 ⟨rfl,HX1,b0,b1,b2,b3,b4,b5⟩)
      go_upto_region 27 with (go_at_call 74;refine (HRT.out x.c _ _ _ rb HX1.out ⟨b0,b1,b2,b3,b4,b5⟩).mono ?_;clear HX1 b0 b1 b2 b3 b4 b5;rintro e w2 ⟨rfl,HX2,b0,b1,b2,b3,b4,b5⟩)
      obtain⟨hm2,q0,⟨c0,c1,c2⟩,y0,y1,y2,hrz⟩:=rt2 HM.out HX2.out hrl hu' b0;have n0:=(hm2.node a HMm.out).kind;have y3:X.pl a<w2.heap.size:=B9 n0;have n1:=(hm2.node a HMm.out).flds;rw[HF.out] at n1;rw[HE1.out] at c0;rw[HE2.out] at c2;generalize B3 (A6 I.V a)=kd at *
      clear hm2;go_region
      go_upto_region 30 with fail
      go_region;go_wp2;go_ret;exact⟨rfl,HX2.out.trans_ eX⟩
   ·rw[if_neg hp];have e1:=(B3l HU.out hp (fun a ha=>by have:=HW.out.dom a ha;omega)).1;have HE1:=Hz e1;clear hp e1
    go_enter Tryz.func30,Tryz.ntmps30
    go_upto_region 12 with (go_at_call 74;refine (HRT.out (rn:Int) (rn:Int) _ _ ra eX obq).mono ?_;rintro e w1 ⟨rfl,HX1,b0,b1,b2,b3,b4,b5⟩)
    go_upto_region 27 with (go_at_call 74;refine (HRT.out x.c _ _ _ rb HX1.out ⟨b0,b1,b2,b3,b4,b5⟩).mono ?_;clear HX1 b0 b1 b2 b3 b4 b5;rintro e w2 ⟨rfl,HX2,b0,b1,b2,b3,b4,b5⟩)
    obtain⟨hm2,q0,⟨c0,c1,c2⟩,y0,y1,y2,hrz⟩:=rt2 HM.out HX2.out hrl hu' b0;have e1:=HE1.out;generalize S9 u=kz at *
    generalize O7 X.pl u=pz at *
    have e4:(kz==4)=false:=by simpa using e1
    clear hm2;go_region;go_wp2;go_ret;exact⟨rfl,HX2.out.trans_ eX⟩
end
end Go.Proofs.YtelhoppfidibiaaGreatDoor
