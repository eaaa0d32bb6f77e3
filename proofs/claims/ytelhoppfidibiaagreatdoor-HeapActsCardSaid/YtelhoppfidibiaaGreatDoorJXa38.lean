/- The document's Do, name by name. -/
import Derived.Test.YtelhoppfidibiaaGreatDoorJXa37
import Derived.Test.YtelhoppfidibiaaGreatDoorCards
import Derived.Test.YtelhoppfidibiaaGreatDoorTie
import Derived.LaidMore
import Derived.Deep.DeepWitnessRowRef
set_option linter.unusedSimpArgs false
set_option linter.unusedVariables false
set_option maxHeartbeats 8000000
set_option maxRecDepth 100000
namespace Go.Proofs.YtelhoppfidibiaaGreatDoor
open Go.RowKit
open Int renaming toNat_natCast→Za
open IntWalk renaming i64_in→Zb
open List renaming length_set→Zc
open Nat renaming le_refl→Zd
open Go.Proofs.Tryz renaming prog→Ze
open World renaming var?_cell→Zf
section
variable {B:Nat} {I:B4} {nx:Int} {X:Q7}
theorem D8o (x:E4) (w:World) (hM:E9 w B I nx X) (hw:D5 I) (hl:I.V.length≤1000000000) (he:I5 I .const x=0):Calls Ze 18 #[.pointer (some ⟨X.mb,0,none⟩),.agg #[.string ⟨#[99,111,110,115,116]⟩,.int .i64 x.a,.int .i64 x.b,.int .i64 x.c,.int .i64 x.n,.string x.s]] w (Y4 w B I X (Z8 I .const x false) nx 0):=by
 have ra:E5 I x.a=true:=by
  cases ra:E5 I x.a with
  | true=>rfl
  | false=>rw[A9a,ra] at he;cases he
 obtain⟨rn,er,hrl⟩:=A0i ra;have hb:0≤x.b∧x.b≤2:=by
  rw[A9a,ra,if_pos rfl] at he;by_cases h:0≤x.b∧x.b≤2
  ·exact h
  ·rw[if_neg h] at he;cases he
 show Calls _ _ _ _ (Y4 w B I X (I.setR x.a.toNat (P3 x.b)) nx 0);obtain⟨k1,k2,k3⟩:=D8d hb;rw[er,Za];have HK:=Hz (And.intro k1 (And.intro k2 (k3 X.pl)));have q0:=hM.roots;obtain⟨c0,c1,c2⟩:=hM.root rn hrl;obtain⟨gcur,gt,gb⟩:=hM.gblk;have gz:∀ j,w.frozen? ⟨X.G,j,none⟩=false:=A2h ⟨gcur,gt,gb⟩;have y1:X.mb<w.heap.size:=B9 q0;have y2:X.G<w.heap.size:=B9 c0;have hrz:(rn:Int)<(I.roots.length:Int):=by omega
 have HM:=Hz hM;have HW:=Hz hw;have HR:=Hz hrl;clear hb k1 k2 k3 er;clear hM hw hrl ra he gb
 go_enter Tryz.func18,Tryz.ntmps18
 go_upto_region 7 with fail
 go_region;go_wp2;go_ret;exact B1q HM.out eX HR.out HK.out.1 HK.out.2.1 HK.out.2.2 eX
theorem D8r (x:E4) (w:World) (hM:E9 w B I nx X) (hw:D5 I) (hl:I.V.length≤1000000000) (hv:F0 x.n) (he:I5 I .int x=0):Calls Ze 18 #[.pointer (some ⟨X.mb,0,none⟩),.agg #[.string ⟨#[105,110,116]⟩,.int .i64 x.a,.int .i64 x.b,.int .i64 x.c,.int .i64 x.n,.string x.s]] w (Y4 w B I X (I.int x.a.toNat x.n) nx 0):=by
 have ra:E5 I x.a=true:=by
  cases ra:E5 I x.a with
  | true=>rfl
  | false=>rw[C0b,ra] at he;cases he
 obtain⟨rn,er,hrl⟩:=A0i ra;rw[er,Za];have q0:=hM.roots;obtain⟨c0,c1,c2⟩:=hM.root rn hrl;obtain⟨gcur,gt,gb⟩:=hM.gblk;have gz:∀ j,w.frozen? ⟨X.G,j,none⟩=false:=A2h ⟨gcur,gt,gb⟩;have y1:X.mb<w.heap.size:=B9 q0;have y2:X.G<w.heap.size:=B9 c0;have hrz:(rn:Int)<(I.roots.length:Int):=by omega
 have HM:=Hz hM;have HW:=Hz hw;have HR:=Hz hrl;unfold B4.int
 cases hs:U2 x.n with
 | true =>
  rw[if_pos rfl];have HK:=Hz (B4y hs);have HS:=Hz hs;clear hs er;clear hM hw hrl ra he gb
  go_enter Tryz.func18,Tryz.ntmps18
  go_upto_region 3 with fail
  go_region
  go_wp2_with (go_at_call 52;refine (C1b x.n _).mono ?_;rintro e w1 ⟨he,hq⟩;rw[HS.out] at he;subst he;have HX1:=Hz hq;clear hq)
  go_ret;exact B1q (wa:=w) HM.out (A0.refl w) HR.out HK.out.1 HK.out.2.1 (HK.out.2.2 _) (A0.trans_ eX (HX1.out.trans_ eX))
 | false =>
  rw[if_neg (by simp)];have HK:=Hz (D5f x.n);have HS:=Hz hs;have HV:=Hz hv;clear hs er;clear hM hw hrl ra he gb
  go_enter Tryz.func18,Tryz.ntmps18
  go_upto_region 3 with fail
  go_region
  go_upto_region 5 with (go_at_call 52;refine (C1b x.n _).mono ?_;rintro e w1 ⟨he,hq⟩;rw[HS.out] at he;subst he;have HX1:=Hz hq;clear hq)
  obtain⟨h1,k1⟩:=HM.out.setR HR.out HK.out.1 HK.out.2.1 (HK.out.2.2.1 X.pl);have h2:=h1.ext (A0.trans_ eX HX1.out);have HK2:=Hz (k1.trans (A8.of_ext (A0.trans_ eX HX1.out)));have H2:=Hz h2;have hr2:rn<(I.setR rn (A5x x.n)).roots.length:=by show rn<(I.roots.set rn _).length;rw[Zc];exact HR.out
  have p0:=h2.roots;rw[show (I.setR rn (A5x x.n)).roots.length=I.roots.length from Zc] at p0;obtain⟨p1,p2,p3⟩:=h2.root rn hr2;have gz1:∀ j,w1.frozen? ⟨X.G,j,none⟩=false:=A2h h2.gblk;have b1:=HX1.out.cell_ (p:=⟨w.heap.size,1,none⟩) (v:=.int .i64 (rn:Int)) (by simp[go_sem]);have y3:X.mb<w1.heap.size:=B9 p0;have y4:X.G<w1.heap.size:=B9 p1;have b4:=HX1.out.cell_ (p:=⟨w.heap.size,4,none⟩) (v:=.int .i64 x.n) (by simp[go_sem]);have y5:w.heap.size<w1.heap.size:=B9 b1;clear h1 k1 h2 hr2 q0 c0 c1 c2 gz;go_region;go_wp2;go_ret;refine C5b (wa:=w1) (wb:=w1.alloc (.cells #[.int .i64 1,.slice none 0 0,.int .i64 x.n,.string ⟨#[]⟩,.int .i64 0] 102)) (R:=I.roots.set rn (A5x x.n)) (f:=0) H2.out HK2.out (fun i hi=>?_) (by rw[List.set_set]) (by rw[Zc];exact HR.out) HW.out hl eX (Zd _) (fun h=>by omega) (by omega) (by simp) (E7x HV.out (heap_alloc_new _ _)) (by rw[B8d _ y4];exact eX);by_cases e:rn=i
  ·subst e;rw[C5w HR.out];exact Or.inr (by have:=HK.out.2.2.2;omega)
  ·rw[C5v e];exact Or.inl (HW.out.root (by rwa [Zc] at hi))
theorem D8z (x:E4) (w:World) (hM:E9 w B I nx X) (hw:D5 I) (hl:I.V.length≤1000000000) (he:I5 I .text x=0):Calls Ze 18 #[.pointer (some ⟨X.mb,0,none⟩),.agg #[.string ⟨#[116,101,120,116]⟩,.int .i64 x.a,.int .i64 x.b,.int .i64 x.c,.int .i64 x.n,.string x.s]] w (Y4 w B I X (I.text x.a.toNat x.s) nx 0):=by
 have ra:E5 I x.a=true:=by
  cases ra:E5 I x.a with
  | true=>rfl
  | false=>rw[A7y,ra] at he;cases he
 obtain⟨rn,er,hrl⟩:=A0i ra;have hz:x.s.size≤2000:=by
  rw[A7y,ra,if_pos rfl] at he;by_cases h:x.s.size≤2000
  ·exact h
  ·rw[if_neg h] at he;cases he
 rw[er,Za];unfold B4.text;have q0:=hM.roots;obtain⟨c0,c1,c2⟩:=hM.root rn hrl;obtain⟨gcur,gt,gb⟩:=hM.gblk;have gz:∀ j,w.frozen? ⟨X.G,j,none⟩=false:=A2h ⟨gcur,gt,gb⟩;have y1:X.mb<w.heap.size:=B9 q0;have y2:X.G<w.heap.size:=B9 c0;have hrz:(rn:Int)<(I.roots.length:Int):=by omega
 have HM:=Hz hM;have HW:=Hz hw;have HR:=Hz hrl;have HZ:=Hz hz;have hll:=A9u x.s;have HL:Hid ((((x.s.size:Int)::T9 x.s)).length≤4096):=by unfold Hid;simp[hll];omega
 clear er hz hll;clear hM hw hrl ra he gb
 go_enter Tryz.func18,Tryz.ntmps18
 go_upto_region 9 with fail
 go_region;go_wp2;go_ret;refine C5a (wb:=(w.alloc (.cells #[.string ⟨#[116,101,120,116]⟩,.int .i64 (rn:Int),.int .i64 x.b,.int .i64 x.c,.int .i64 x.n,.string x.s] 41)).alloc (.cells #[.int .i64 2,.slice none 0 0,.int .i64 0,.string x.s,.int .i64 0] 102)) (p:=w.heap.size+1) (f:=0) HM.out HR.out HW.out hl eX (by omega) (fun h=>by omega) (by omega) HL.out (E7y (t:=102) HZ.out ?_) (by rw[B8d _ (by simp;omega),B8d _ y2];exact eX);have:=heap_alloc_new (w.alloc (.cells #[.string ⟨#[116,101,120,116]⟩,.int .i64 (rn:Int),.int .i64 x.b,.int .i64 x.c,.int .i64 x.n,.string x.s] 41)) (.cells #[.int .i64 2,.slice none 0 0,.int .i64 0,.string x.s,.int .i64 0] 102);simpa [go_sem] using this
theorem D8p (x:E4) (w:World) (hM:E9 w B I nx X) (hw:D5 I) (hl:I.V.length≤1000000000) (he:I5 I .copy x=0):Calls Ze 18 #[.pointer (some ⟨X.mb,0,none⟩),.agg #[.string ⟨#[99,111,112,121]⟩,.int .i64 x.a,.int .i64 x.b,.int .i64 x.c,.int .i64 x.n,.string x.s]] w (Y4 w B I X (Z8 I .copy x false) nx 0):=by
 have hab:E5 I x.a=true∧E5 I x.b=true:=by
  rw[B3p] at he
  cases ra:E5 I x.a<;>cases rb:E5 I x.b<;>simp[ra,rb] at he<;>exact⟨rfl,rfl⟩
 obtain⟨ra,rb⟩:=hab;obtain⟨rn,er,hrl⟩:=A0i ra;obtain⟨sn,es,hsl⟩:=A0i rb;show Calls _ _ _ _ (Y4 w B I X (I.setR x.a.toNat (I.roots.getD x.b.toNat 0)) nx 0);rw[er,es,Za,Za];have q0:=hM.roots;obtain⟨c0,c1,c2⟩:=hM.root rn hrl;obtain⟨gcur,gt,gb⟩:=hM.gblk;have gz:∀ j,w.frozen? ⟨X.G,j,none⟩=false:=A2h ⟨gcur,gt,gb⟩;have y1:X.mb<w.heap.size:=B9 q0;have y2:X.G<w.heap.size:=B9 c0;have hrz:(rn:Int)<(I.roots.length:Int):=by omega
 have HM:=Hz hM;have HW:=Hz hw;have HR:=Hz hrl;obtain⟨d0,d1,d2⟩:=hM.root sn hsl;have hsz:(sn:Int)<(I.roots.length:Int):=by omega
 clear er es rb hsl;clear hM hw hrl ra he gb
 go_enter Tryz.func18,Tryz.ntmps18
 go_upto_region 13 with fail
 go_region;go_wp2;go_ret;exact B1q (wa:=w) HM.out (A0.refl w) HR.out rfl rfl rfl eX
theorem D8t (x:E4) (w:World) (hM:E9 w B I nx X) (hw:D5 I) (hl:I.V.length≤1000000000) (he:I5 I .make x=0):Calls Ze 18 #[.pointer (some ⟨X.mb,0,none⟩),.agg #[.string ⟨#[109,97,107,101]⟩,.int .i64 x.a,.int .i64 x.b,.int .i64 x.c,.int .i64 x.n,.string x.s]] w (Y4 w B I X (Z8 I .make x false) nx 0):=by
 have ra:E5 I x.a=true:=by
  cases ra:E5 I x.a with
  | true=>rfl
  | false=>rw[A7x,ra] at he;cases he
 obtain⟨rn,er,hrl⟩:=A0i ra;have hb:8≤x.b∧x.b≤255∧0≤x.c∧x.c≤4096:=by
  rw[A7x,ra,if_pos rfl] at he;by_cases h:x.b<8∨255<x.b∨x.c<0∨4096<x.c
  ·rw[if_pos h] at he;cases he
  ·omega
 obtain⟨b1,b2,b3,b4⟩:=hb;rw[C4u];obtain⟨m,hm⟩:∃ m:Nat,x.c=(m:Int):=⟨x.c.toNat,by omega⟩;rw[er,hm,Za,Za];have hm2:m≤4096:=by omega
 have q0:=hM.roots;obtain⟨c0,c1,c2⟩:=hM.root rn hrl;obtain⟨gcur,gt,gb⟩:=hM.gblk;have gz:∀ j,w.frozen? ⟨X.G,j,none⟩=false:=A2h ⟨gcur,gt,gb⟩;have y1:X.mb<w.heap.size:=B9 q0;have y2:X.G<w.heap.size:=B9 c0;have hrz:(rn:Int)<(I.roots.length:Int):=by omega
 have HM:=Hz hM;have HW:=Hz hw;have HR:=Hz hrl;obtain⟨i0,hi0,h0a,h0b,h0c⟩:=info_parts B6x;have e0:((w.alloc (.cells #[.string ⟨#[109,97,107,101]⟩,.int .i64 (rn:Int),.int .i64 x.b,.int .i64 (m:Int),.int .i64 x.n,.string x.s] 41)).drew).heap.size=w.heap.size+1:=by simp[go_sem]
 obtain⟨w1,hr1,ho1,hg1⟩:=run_make_full (P:=Ze) (w:=(w.alloc (.cells #[.string ⟨#[109,97,107,101]⟩,.int .i64 (rn:Int),.int .i64 x.b,.int .i64 (m:Int),.int .i64 x.n,.string x.s] 41)).drew) w.heap.size 53 52 i0 (.agg #[.int .i64 0,.int .i64 0,.pointer none]) 3 B8p hi0 h0a h0b .i64 .i64 m (by rw[h0c];omega) (by unfold maxLen;omega) (by rw[e0];omega);rw[e0] at hr1 ho1;have hxa:A0 w (w.alloc (.cells #[.string ⟨#[109,97,107,101]⟩,.int .i64 (rn:Int),.int .i64 x.b,.int .i64 (m:Int),.int .i64 x.n,.string x.s] 41)).drew:=eX;have hx1:A0 w w1:=Below.grown hxa hg1 (by rw[e0];omega) (fun k hk=>by cases hk);have hxb:A0 (w.alloc (.cells #[.string ⟨#[109,97,107,101]⟩,.int .i64 (rn:Int),.int .i64 x.b,.int .i64 (m:Int),.int .i64 x.n,.string x.s] 41)).drew w1:=Below.grown (Below.refl _ _) hg1 (Zd _) (fun k hk=>by cases hk);have hR:=(R4 ho1).1;have hcl:∀ j,j<m*3→w1.cell? ⟨w.heap.size+1,j,none⟩=some ((#[.int .i64 0,.int .i64 0,.pointer none]:Array Value)[j%3]!):=fun j hj=>by
  have h1:(madeCells (Value.agg #[.int .i64 0,.int .i64 0,.pointer none]).cells (m*3)).toList[j]?=some ((#[.int .i64 0,.int .i64 0,.pointer none]:Array Value)[j%3]!):=by
   rw[Array.getElem?_toList];exact B7h _ _ _ hj
  have:=hR.at_ h1;simpa using this
 have hfb:∃ cur t,w1.heap[w.heap.size+1]?=some (.cells cur t (0,0)):=by
  obtain⟨_,h2⟩:=ho1;rcases h2 with⟨e,_⟩|⟨g,cap,cur,e,q1,q2,_⟩
  ·cases e
  ·cases e;exact⟨cur,_,q2⟩
 have HN:Hid (A3f (w1.alloc (.cells #[.int .i64 x.b,.slice (some ⟨w.heap.size+1,0,none⟩) m m,.int .i64 0,.string ⟨#[]⟩,.int .i64 0] 102)) (I.new x.b (List.replicate m 2)).V (X.new I.V.length w1.heap.size (w.heap.size+1)) I.V.length 0):=by
  have hxn:A0 w1 (w1.alloc (.cells #[.int .i64 x.b,.slice (some ⟨w.heap.size+1,0,none⟩) m m,.int .i64 0,.string ⟨#[]⟩,.int .i64 0] 102)):=eX;refine C1v (t:=102) ⟨b1,b2⟩ hm2 (heap_alloc_new _ _) (A0q (L:=fun _=>False) (A8.of_ext hxn) (fun q=>q) hfb) fun j hj=>⟨hxn.cell_ ?_,hxn.cell_ ?_,hxn.cell_ ?_⟩
  ·rw[hcl _ (by omega),show j*3%3=0 by omega];rfl
  ·rw[hcl _ (by omega),show (j*3+1)%3=1 by omega];rfl
  ·rw[hcl _ (by omega),show (j*3+2)%3=2 by omega];rfl
 have z0:=hx1.cell_ q0;have z1:=hx1.cell_ c0;have z2:=hx1.cell_ c1;have z3:=hx1.cell_ c2;have gz1:∀ j,w1.frozen? ⟨X.G,j,none⟩=false:=A2h (A0q (L:=fun _=>False) (A8.of_ext hx1) (fun q=>q) ⟨gcur,gt,gb⟩);have a1:=hxb.cell_ (p:=⟨w.heap.size,1,none⟩) (v:=.int .i64 (rn:Int)) (by simp[go_sem]);have a2:=hxb.cell_ (p:=⟨w.heap.size,2,none⟩) (v:=.int .i64 x.b) (by simp[go_sem]);have y5:w.heap.size+1<w1.heap.size:=A6f hfb;have y3:X.G<w1.heap.size:=by omega
 have y6:w.heap.size<w1.heap.size:=by omega
 have y7:X.mb<w1.heap.size:=by omega
 have HX:=Hz hx1;clear er e0 ho1 hg1 hxa hx1 hxb hR hcl hfb hi0 h0a h0b h0c;clear hM hw hrl ra he gb
 go_enter Tryz.func18,Tryz.ntmps18
 go_upto_region 11 with fail
 go_region;go_wp2;go_ret;exact C5a (wb:=w1.alloc (.cells #[.int .i64 x.b,.slice (some ⟨w.heap.size+1,0,none⟩) m m,.int .i64 0,.string ⟨#[]⟩,.int .i64 0] 102)) (p:=w1.heap.size) (f:=w.heap.size+1) HM.out HR.out HW.out hl (HX.out.alloc_ _) (by omega) (fun h=>by omega) (by omega) (by simp;omega) HN.out (by rw[B8d _ y3];exact eX)
end
theorem F6d {P:Program} {ops:Array Oper} {o:Oper} {a:Act} {w:World} {K:Act→World→Prop} {Q:Exit→Act→World→Prop} {E:Prop}
  (hg:o.guard=none) (s x:Operand) (t:TypeId) (hop:o.op=Op.call {callee:=Callee.builtin Builtin.append,args:=#[s,x],argTypes:=#[t,t]}) (vs vx:Value) (hs:a.eval s=vs) (hx:a.eval x=vx) {v':Value} {w':World}
  (hr:(Builtin.append_ #[t,t] o.type #[vs,vx]).run P w=.ok v' w') (hK:K (a.put o.dst v') w'):if Region.wanted o (yielded ops a.tmps)=true then Oper.wp P o a w K Q else E:=by
 have hw:Region.wanted o (yielded ops a.tmps)=true:=by simp[Region.wanted,hg]
 rw[if_pos hw];unfold Oper.wp;simp[execOp,hop,resolve,invoke,builtin,hs,hx,hr,Result.andThen];exact hK
section
variable {B:Nat} {I:B4} {nx:Int} {X:Q7}
theorem D8q (x:E4) (w:World) (hM:E9 w B I nx X) (hw:D5 I) (hl:I.V.length≤1000000000) (he:I5 I .get x=0):Calls Ze 18 #[.pointer (some ⟨X.mb,0,none⟩),.agg #[.string ⟨#[103,101,116]⟩,.int .i64 x.a,.int .i64 x.b,.int .i64 x.c,.int .i64 x.n,.string x.s]] w (Y4 w B I X (Z8 I .get x false) nx 0):=by
 have hac:E5 I x.a=true∧E5 I x.c=true∧A3r I x.a x.b=0:=by
  rw[B3q] at he
  cases ra:E5 I x.a<;>cases rb:E5 I x.c<;>simp[ra,rb] at he<;>exact⟨rfl,rfl,he⟩
 obtain⟨ra,rc,hf⟩:=hac;obtain⟨a,k,rn,er,ek,hat,epl⟩:=B1s ra hf;obtain⟨sn,es,hsl⟩:=A0i rc;obtain⟨hrl,hpa,hraw,hk⟩:=hat
 rw[C4t,epl,er,ek,es,Za];have q0:=hM.roots;obtain⟨c0,c1,c2⟩:=hM.root rn hrl;obtain⟨gcur,gt,gb⟩:=hM.gblk;have gz:∀ j,w.frozen? ⟨X.G,j,none⟩=false:=A2h ⟨gcur,gt,gb⟩;have y1:X.mb<w.heap.size:=B9 q0;have y2:X.G<w.heap.size:=B9 c0;have hrz:(rn:Int)<(I.roots.length:Int):=by omega
 have HM:=Hz hM;have HW:=Hz hw;have HR:=Hz hsl;have hu:=hw.root hrl;have hm:=(P2.pts hw hl hu hpa).1;have h8:8≤B3 (A6 I.V a):=by
  unfold D2 at hraw;simp at hraw;omega
 have hN:=hM.node a hm;obtain⟨d0,d1,d2⟩:=hM.root sn hsl;obtain⟨f0,f1,f2⟩:=hN.fld h8 k hk;have n1:=hN.flds;rw[show A2f X I.V a=.slice (some ⟨X.fl a,0,none⟩) (A9 I.V a) (A9 I.V a) from if_neg (by omega)] at n1;have e0:0≤B6 (I.roots.getD rn 0):=by omega
 have e2:O7 X.pl (I.roots.getD rn 0)=some ⟨X.pl a,0,none⟩:=by unfold O7;rw[if_pos e0,hpa,Za]
 have HE2:=Hz e2;have HMm:=Hz hm;have H8:=Hz h8;have HK:=Hz hk;have hsz:(sn:Int)<(I.roots.length:Int):=by omega
 have hkz:(k:Int)<(A9 I.V a:Int):=by omega
 have y3:X.pl a<w.heap.size:=B9 n1;have y4:X.fl a<w.heap.size:=B9 f0;rw[e2] at c2;clear er ek es epl hf rc hu hm h8 hN e2 e0 hk hpa hraw hsl;clear hM hw hrl ra he gb
 go_enter Tryz.func18,Tryz.ntmps18
 go_upto_region 15 with fail
 go_region;go_wp2;go_ret;exact B1q (wa:=w) HM.out (A0.refl w) HR.out rfl rfl rfl eX
theorem D8v (x:E4) (w:World) (hM:E9 w B I nx X) (hw:D5 I) (hl:I.V.length≤1000000000) (he:I5 I .put x=0):Calls Ze 18 #[.pointer (some ⟨X.mb,0,none⟩),.agg #[.string ⟨#[112,117,116]⟩,.int .i64 x.a,.int .i64 x.b,.int .i64 x.c,.int .i64 x.n,.string x.s]] w (Y4 w B I X (Z8 I .put x false) nx 0):=by
 have hac:E5 I x.a=true∧E5 I x.c=true∧A3r I x.a x.b=0:=by
  rw[B3r] at he
  cases ra:E5 I x.a<;>cases rb:E5 I x.c<;>simp[ra,rb] at he<;>exact⟨rfl,rfl,he⟩
 obtain⟨ra,rc,hf⟩:=hac;obtain⟨a,k,rn,er,ek,hat,epl⟩:=B1s ra hf;obtain⟨sn,es,hsl⟩:=A0i rc;obtain⟨hrl,hpa,hraw,hk⟩:=hat
 rw[C4v,epl,er,ek,es,Za];have q0:=hM.roots;obtain⟨c0,c1,c2⟩:=hM.root rn hrl;have y1:X.mb<w.heap.size:=B9 q0;have y2:X.G<w.heap.size:=B9 c0;have hrz:(rn:Int)<(I.roots.length:Int):=by omega
 have HM:=Hz hM;have HW:=Hz hw;have HR:=Hz hrl;have hu:=hw.root hrl;have hm:=(P2.pts hw hl hu hpa).1;have h8:8≤B3 (A6 I.V a):=by
  unfold D2 at hraw;simp at hraw;omega
 have hN:=hM.node a hm;obtain⟨d0,d1,d2⟩:=hM.root sn hsl;obtain⟨f0,f1,f2⟩:=hN.fld h8 k hk;have n1:=hN.flds;rw[show A2f X I.V a=.slice (some ⟨X.fl a,0,none⟩) (A9 I.V a) (A9 I.V a) from if_neg (by omega)] at n1;have e0:0≤B6 (I.roots.getD rn 0):=by omega
 have e2:O7 X.pl (I.roots.getD rn 0)=some ⟨X.pl a,0,none⟩:=by unfold O7;rw[if_pos e0,hpa,Za]
 have HE2:=Hz e2;have HMm:=Hz hm;have H8:=Hz h8;have HK:=Hz hk;have hsz:(sn:Int)<(I.roots.length:Int):=by omega
 have hkz:(k:Int)<(A9 I.V a:Int):=by omega
 have y3:X.pl a<w.heap.size:=B9 n1;have y4:X.fl a<w.heap.size:=B9 f0;have gz:∀ j,w.frozen? ⟨X.fl a,j,none⟩=false:=A2h (hN.fblk h8);rw[e2] at c2;clear er ek es epl hf rc hu hm h8 hN e2 e0 hk hpa hraw hsl;clear hM hw hrl ra he
 go_enter Tryz.func18,Tryz.ntmps18
 go_upto_region 17 with fail
 go_region;go_wp2;go_ret;exact D8w HM.out HW.out HMm.out H8.out HK.out rfl rfl rfl eX
theorem D8y (x:E4) (w:World) (hM:E9 w B I nx X) (hw:D5 I) (hl:I.V.length≤1000000000) (hnx:1≤nx∧nx≤1000000) (hs1:∀ x∈I.ids,1≤x.2) (he:I5 I .serial x=0):Calls Ze 18 #[.pointer (some ⟨X.mb,0,none⟩),.agg #[.string ⟨#[115,101,114,105,97,108]⟩,.int .i64 x.a,.int .i64 x.b,.int .i64 x.c,.int .i64 x.n,.string x.s]] w (Y4 w B I X (doN I nx .serial x false).1 (doN I nx .serial x false).2 (A8n I nx .serial x)):=by
 have hac:E5 I x.a=true∧0≤B6 (I.roots.getD x.a.toNat 0):=by
  rw[B3s] at he
  cases ra:E5 I x.a with
  | false=>rw[ra] at he;cases he
  | true =>
   rw[ra,if_pos rfl] at he;unfold A3b at he;by_cases h:0≤B6 (I.roots.getD x.a.toNat 0)
   ·exact⟨rfl,h⟩
   ·rw[if_neg h] at he;cases he
 obtain⟨ra,e0⟩:=hac;obtain⟨rn,er,hrl⟩:=A0i ra;rw[er,Za] at e0;obtain⟨a,hpa⟩:∃ a:Nat,B6 (I.roots.getD rn 0)=(a:Int):=⟨(B6 (I.roots.getD rn 0)).toNat,by omega⟩;have hwd:=B2i hpa;have hu:=hw.root hrl;have hm:=(P2.pts hw hl hu hpa).1;have hal:a≤1000000000:=by have:=hw.dom a hm;omega
 have hadr:I.roots.getD rn 0=D3 (a:Int):=by rw[hwd];unfold D3;omega
 have hN:=hM.node a hm;have n4:=hN.ser;have e2:O7 X.pl (I.roots.getD rn 0)=some ⟨X.pl a,0,none⟩:=by unfold O7;rw[if_pos e0,hpa,Za]
 have nz:∀ j,w.frozen? ⟨X.pl a,j,none⟩=false:=A2h hN.blk;have mz:∀ j,w.frozen? ⟨X.mb,j,none⟩=false:=A2h hM.mblk;have q1:=hM.weak;have q2:=hM.next;have y3:X.pl a<w.heap.size:=B9 n4;have ne1:X.pl a≠X.mb:=(hM.apart.2.2.1 a hm).1;have ne2:X.mb≠X.pl a:=Ne.symm ne1;have HMm:=Hz hm;have HA:=Hz hal;have q0:=hM.roots;obtain⟨c0,c1,c2⟩:=hM.root rn hrl;have y1:X.mb<w.heap.size:=B9 q0;have y2:X.G<w.heap.size:=B9 c0;have hrz:(rn:Int)<(I.roots.length:Int):=by omega
 have HM:=Hz hM;have HW:=Hz hw;have HR:=Hz hrl;rw[e2] at c2
 cases hs:A0s I (a:Int) with
 | some s =>
  have h1s:1≤s:=by
   unfold A0s at hs
   cases hf:I.ids.find? (fun x=>B6 x.1==(a:Int)) with
   | none=>rw[hf] at hs;cases hs
   | some y=>rw[hf] at hs;cases hs;exact hs1 y (List.mem_of_find?_eq_some hf)
  have hs':A0s I (B6 (I.roots.getD x.a.toNat 0))=some s:=by rw[er,Za,hpa,hs]
  rw[D1k I x false nx hs',B7l,hs',er];rw[show A5p I a=s by unfold A5p;rw[hs];rfl] at n4;have ez:(s==0)=false:=by simp;omega
  show Calls _ _ _ _ (Y4 w B I X I nx s);clear hs hs' er hpa hwd hu hm hal hadr hN e2 e0 hs1 h1s;clear hM hw hrl ra he
  go_enter Tryz.func18,Tryz.ntmps18
  go_upto_region 19 with fail
  go_region;go_wp2;go_ret;exact⟨rfl,X,rfl,HM.out.ext eX,A8.of_ext eX,fun k q=>Or.inl q⟩
 | none =>
  have hs':A0s I (B6 (I.roots.getD x.a.toNat 0))=none:=by rw[er,Za,hpa,hs]
  rw[D1j I x false nx hs',B7l,hs',er,Za,hadr];rw[show A5p I a=0 by unfold A5p;rw[hs];rfl] at n4;have HS:=Hz hs;have f1:IntKind.i64.wrap (nx-1+1)=nx:=by rw[Zb _ (by omega)];omega
  have f2:IntKind.i64.wrap nx=nx:=Zb _ (by omega);show Calls _ _ _ _ (Y4 w B I X (I.addId (D3 (a:Int)) nx) (nx+1) nx);clear hs hs' er hpa hwd hu hm hal hadr hN e2 e0 hs1;clear hM hw hrl ra he
  go_enter Tryz.func18,Tryz.ntmps18
  go_upto_region 19 with fail
  go_region;go_wp2;go_ret;exact D8x HM.out HW.out hl HMm.out HS.out eX
theorem D9a (x:E4) (w:World) (hM:E9 w B I nx X) (hw:D5 I) (hl:I.V.length≤1000000000) (hwl:I.weak.length<5000) (he:I5 I .weak x=0):Calls Ze 18 #[.pointer (some ⟨X.mb,0,none⟩),.agg #[.string ⟨#[119,101,97,107]⟩,.int .i64 x.a,.int .i64 x.b,.int .i64 x.c,.int .i64 x.n,.string x.s]] w (Y4 w B I X (Z8 I .weak x false) nx (I.weak.length:Int)):=by
 have hac:E5 I x.a=true∧0≤B6 (I.roots.getD x.a.toNat 0):=by
  rw[B3t] at he
  cases ra:E5 I x.a with
  | false=>rw[ra] at he;cases he
  | true =>
   rw[ra,if_pos rfl] at he;unfold A3b at he;by_cases h:0≤B6 (I.roots.getD x.a.toNat 0)
   ·exact⟨rfl,h⟩
   ·rw[if_neg h] at he;cases he
 obtain⟨ra,e0⟩:=hac;obtain⟨rn,er,hrl⟩:=A0i ra;rw[er,Za] at e0;obtain⟨a,hpa⟩:∃ a:Nat,B6 (I.roots.getD rn 0)=(a:Int):=⟨(B6 (I.roots.getD rn 0)).toNat,by omega⟩;have hwd:=B2i hpa;have hu:=hw.root hrl;have hm:=(P2.pts hw hl hu hpa).1;have hal:a≤1000000000:=by have:=hw.dom a hm;omega
 have hadr:I.roots.getD rn 0=D3 (a:Int):=by rw[hwd];unfold D3;omega
 have hN:=hM.node a hm;have n4:=hN.ser;have e2:O7 X.pl (I.roots.getD rn 0)=some ⟨X.pl a,0,none⟩:=by unfold O7;rw[if_pos e0,hpa,Za]
 have nz:∀ j,w.frozen? ⟨X.pl a,j,none⟩=false:=A2h hN.blk;have mz:∀ j,w.frozen? ⟨X.mb,j,none⟩=false:=A2h hM.mblk;have q1:=hM.weak;have q2:=hM.next;have y3:X.pl a<w.heap.size:=B9 n4;have ne1:X.pl a≠X.mb:=(hM.apart.2.2.1 a hm).1;have ne2:X.mb≠X.pl a:=Ne.symm ne1;have HMm:=Hz hm;have HA:=Hz hal;have q0:=hM.roots;obtain⟨c0,c1,c2⟩:=hM.root rn hrl;have y1:X.mb<w.heap.size:=B9 q0;have y2:X.G<w.heap.size:=B9 c0;have hrz:(rn:Int)<(I.roots.length:Int):=by omega
 have HM:=Hz hM;have HW:=Hz hw;have HR:=Hz hrl;rw[e2] at c2;obtain⟨wa,wc,hwv⟩:=hM.wkv;obtain⟨i0,hif,hz0,hz1,hz2⟩:=info_parts C6z;have hwk:=hM.wk;obtain⟨v9,w9,hrun9,ht9,hg9,hv9⟩:=B2k (P:=Ze) (w:=((w.alloc (.cells #[.string ⟨#[119,101,97,107]⟩,.int .i64 (rn:Int),.int .i64 x.b,.int .i64 x.c,.int .i64 x.n,.string x.s] 41)).alloc (.cells #[.pointer (some ⟨X.pl a,0,none⟩)] 49)).drew) 54 54 B 49 i0 (.pointer none) 8 D2z hif hz0 hz1 hz2 rfl X.wv (wkV X I) (hwk.ext eX) ⟨w.heap.size+1,0,none⟩ 1 (.pointer (some ⟨X.pl a,0,none⟩)) (by simp[go_sem]) rfl (by rw[B8v];unfold maxLen;omega) (by rw[B8v];omega) (by have:=(hM.own (Or.inl rfl));simp[go_sem];omega);rw[hwv] at hrun9 q1;have hk9:A8 (fun k=>X.wv.ownBlock=some k) w w9:=A8.trans (b:=((w.alloc (.cells #[.string ⟨#[119,101,97,107]⟩,.int .i64 (rn:Int),.int .i64 x.b,.int .i64 x.c,.int .i64 x.n,.string x.s] 41)).alloc (.cells #[.pointer (some ⟨X.pl a,0,none⟩)] 49)).drew) (A8.of_ext eX) (A8.of_grown hg9 fun k q=>Or.inl q);have hmo:¬X.wv.ownBlock=some X.mb:=fun e=>(hM.apart.2.1 _ e).1 rfl
 have z1:=hk9.cell (p:=⟨X.mb,1,none⟩) hmo q1;have mz9:∀ j,w9.frozen? ⟨X.mb,j,none⟩=false:=A2h (A0q hk9 hmo hM.mblk);obtain⟨va,vn,vc,hv⟩:=ht9.slice;have hvn:vn=I.weak.length+1:=by
  rcases ht9 with⟨_,h⟩|⟨g,off,cap,cur,h,_⟩
  ·simp at h
  ·rw[hv] at h;injection h with h1 h2 h3;rw[h2,List.length_append,B8v];rfl
 have hvv:v9=.slice va (I.weak.length+1) vc:=by rw[hv,hvn]
 subst hvv;have y5:X.mb<w9.heap.size:=B9 z1;have f1:IntKind.i64.wrap ((I.weak.length:Int)+1-1)=(I.weak.length:Int):=by rw[Zb _ (by omega)];omega
 have f2:IntKind.i64.wrap (I.weak.length:Int)=(I.weak.length:Int):=Zb _ (by omega);have f3:((I.weak.length+1:Nat):Int)=(I.weak.length:Int)+1:=by omega
 have HT:=Hz ht9;have HG:=Hz hg9;have HV:=Hz hv9;rw[show Z8 I .weak x false=I.addWeak (D3 (a:Int)) by rw[C4w,er,Za,hadr],er];clear er hpa hwd hu hm hal hadr hN e2 e0 hwv hwk ht9 hg9 hv9 hk9 hmo hv hvn hif hz0 hz1 hz2;clear hM hw hrl ra he
 go_enter Tryz.func18,Tryz.ntmps18
 go_upto_region 25 with fail
 go_region_law (refine F6d rfl (.tmp 186) (.tmp 196) 54 rfl _ _ (by simp[Act.eval,Act.put]) (by simp[Act.eval,Act.put]) hrun9 ?_)
 all_goals
  go_wp2;go_ret;exact D9b HM.out eX HMm.out HA.out HG.out HT.out HV.out eX
end
theorem E0u {n i:Nat} (h:i<n):(B4.fresh n).roots.getD i 0=2:=by
 show (List.replicate n (2:Int)).getD i 0=2;rw[List.getD_eq_getElem?_getD,List.getElem?_replicate,if_pos h];rfl
theorem C8x (n:Nat) (hn:n≤5000) (w:World) :
  Calls Ze 17 #[.int .i64 (n:Int)] w fun e w'=>∃ X,e=.returned (.pointer (some ⟨X.mb,0,none⟩))∧E9 w' w.heap.size (B4.fresh n) 1 X∧A0 w w':=by
 obtain⟨i0,hi0,h0a,h0b,h0c⟩:=info_parts B6x;obtain⟨w1,hr1,ho1,hg1⟩:=run_make_full (P:=Ze) w w.heap.size 53 52 i0 (.agg #[.int .i64 0,.int .i64 0,.pointer none]) 3 B8p hi0 h0a h0b .i64 .i64 n (by rw[h0c];omega) (by unfold maxLen;omega) (Zd _);have hx1:A0 w w1:=Below.grown (Below.refl _ _) hg1 (Zd _) (fun k hk=>by cases hk);have hR:=(R4 ho1).1;have hcl:∀ j,j<n*3→w1.cell? ⟨w.heap.size,j,none⟩=some ((#[.int .i64 0,.int .i64 0,.pointer none]:Array Value)[j%3]!):=fun j hj=>by
  have h1:(madeCells (Value.agg #[.int .i64 0,.int .i64 0,.pointer none]).cells (n*3)).toList[j]?=some ((#[.int .i64 0,.int .i64 0,.pointer none]:Array Value)[j%3]!):=by
   rw[Array.getElem?_toList];exact B7h _ _ _ hj
  have:=hR.at_ h1;simpa using this
 have hfb:∃ cur t,w1.heap[w.heap.size]?=some (.cells cur t (0,0)):=by
  obtain⟨_,h2⟩:=ho1;rcases h2 with⟨e,_⟩|⟨g,cap,cur,e,q1,q2,_⟩
  ·cases e
  ·cases e;exact⟨cur,_,q2⟩
 have hlt:w.heap.size<w1.heap.size:=A6f hfb;have hN:E9 (w1.alloc (.cells #[.slice (some ⟨w.heap.size,0,none⟩) n n,.slice none 0 0,.int .i64 0] 56)) w.heap.size (B4.fresh n) 1 ⟨id,id,w1.heap.size,w.heap.size,.slice none 0 0⟩:=by
  have hx:=(A0.refl w1).alloc_ (.cells #[.slice (some ⟨w.heap.size,0,none⟩) n n,.slice none 0 0,.int .i64 0] 56);have hb:=heap_alloc_new w1 (.cells #[.slice (some ⟨w.heap.size,0,none⟩) n n,.slice none 0 0,.int .i64 0] 56);refine⟨⟨_,_,hb⟩,?_,?_,?_,A0q (L:=fun _=>False) (A8.of_ext hx) (fun q=>q) hfb,fun i hi=>?_,Or.inl ⟨rfl,rfl⟩,fun a ha=>by simp[B4.fresh] at ha,⟨Nat.le_of_lt hlt,Zd _,fun a ha=>by simp[B4.fresh] at ha⟩,⟨fun k=>if k=w1.heap.size then 0 else 1,if_pos rfl,if_neg (by show w.heap.size≠w1.heap.size;omega),fun k hk=>(by cases hk),fun a ha=>(by simp[B4.fresh] at ha),fun a ha=>(by simp[B4.fresh] at ha)⟩⟩
  ·rw[show (B4.fresh n).roots.length=n by simp[B4.fresh],World.cell?,hb];rfl
  ·rw[World.cell?,hb];rfl
  ·rw[World.cell?,hb];rfl
  ·have hi':i<n:=by simpa [B4.fresh] using hi
   rw[E0u hi'];refine⟨hx.cell_ ?_,hx.cell_ ?_,hx.cell_ ?_⟩
   ·rw[hcl _ (by omega),show i*3%3=0 by omega];rfl
   ·rw[hcl _ (by omega),show (i*3+1)%3=1 by omega];rfl
   ·rw[hcl _ (by omega),show (i*3+2)%3=2 by omega];rfl
 have HN:=Hz hN;have HX:=Hz (hx1.alloc_ (.cells #[.slice (some ⟨w.heap.size,0,none⟩) n n,.slice none 0 0,.int .i64 0] 56));clear ho1 hg1 hx1 hR hcl hN hfb hlt
 go_enter Tryz.func17,Tryz.ntmps17
 go_wp2;go_ret;exact⟨⟨id,id,w1.heap.size,w.heap.size,.slice none 0 0⟩,rfl,HN.out,HX.out⟩
def B8q (half old card ten roots:Int):Bool:=A1i half old card&&decide (0≤ten)&&decide (ten≤15)&&decide (0≤roots)&&decide (roots≤5000)
theorem E2m (half old card ten roots:Int) (h:B8q half old card ten roots=false) (w:World) (E:Nat→Addr) (hE:G4 E w) :
  Calls Ze 10 #[.agg #[.int .i64 half,.int .i64 old,.int .i64 card,.int .i64 ten],.int .i64 roots] w fun e w'=>e=.returned (.tuple #[.pointer none,E0 (E 1)])∧A0 w w':=by
 have HE:=Hz hE;have h5:A1i half old card=false∨(A1i half old card=true∧(ten<0∨(¬ten<0∧15<ten)∨(¬ten<0∧¬15<ten∧roots<0)∨(¬ten<0∧¬15<ten∧¬roots<0∧5000<roots))):=by
  cases hn:A1i half old card with
  | false=>exact Or.inl rfl
  | true =>
   right;refine⟨rfl,?_⟩;unfold B8q at h;rw[hn] at h;simp only[Bool.true_and,Bool.and_eq_false_iff,decide_eq_false_iff_not] at h;omega
 clear h;rcases h5 with hn|⟨hn,hr⟩
 ·have hG:=Hz (E7u half old card hn (w.alloc (.cells #[.int .i64 half,.int .i64 old,.int .i64 card,.int .i64 ten] 30)) (E 1) (HE.out.ext ((A0.refl _).alloc_ _)).bound);clear hE
  go_enter Tryz.func10,Tryz.ntmps10
  go_upto_region 3 with (go_at_call 37;refine hG.out.mono ?_;rintro e w1 ⟨rfl,hq⟩;have HX1:Hid (A0 w w1):=((A0.refl w).alloc_ _).trans_ hq;clear hq;have k1:=(HE.out.ext HX1.out).bound)
  go_region;go_wp2
  go_ret2
  exact⟨rfl,HX1.out.drew_⟩
 ·have hG:=Hz (C8z half old card hn (w.alloc (.cells #[.int .i64 half,.int .i64 old,.int .i64 card,.int .i64 ten] 30)));clear hE;rcases hr with b1|⟨b1,b2⟩|⟨b1,b2,b3⟩|⟨b1,b2,b3,b4⟩
  all_goals
   go_enter Tryz.func10,Tryz.ntmps10
   go_upto_region 3 with (go_at_call 37;refine hG.out.mono ?_;rintro e w1 ⟨bb,SS,rfl,hom,hq⟩;have c3:w1.cell? ⟨w.heap.size,3,none⟩=some (.int .i64 ten):=hq.cell_ (by rw[World.cell?,heap_alloc_new];rfl);have HX1:Hid (A0 w w1):=((A0.refl w).alloc_ _).trans_ hq;clear hq hom;have k1:=(HE.out.ext HX1.out).bound)
   go_region;go_wp2
   go_ret2
   exact⟨rfl,HX1.out.drew_⟩
theorem F8y (w:World) {B hb b:Nat} {M:A7} {S:C8} {ten nx:Int} (hH:E7 w B hb b M S ten nx) :
  Calls Ze 23 #[.pointer (some ⟨hb,0,none⟩)] w fun e w'=>e=.returned (.tuple #[.int .i64 M.top,.int .i64 M.oldTop])∧A0 w w':=by
 have q0:=hH.ptr;have c5:w.cell? ⟨b,5,none⟩=some (.int .i64 M.top):=hH.mem.num (5,M.top) (by simp[L5]);have c6:w.cell? ⟨b,6,none⟩=some (.int .i64 M.oldTop):=hH.mem.num (6,M.oldTop) (by simp[L5]);clear hH
 go_enter Tryz.func23,Tryz.ntmps23
 go_wp2;go_region;go_wp2
 go_ret2
 exact⟨rfl,(A0.refl _).drew_⟩
theorem E7.away {w w':World} {B hb b:Nat} {M:A7} {S:C8} {ten nx:Int} (h:E7 w B hb b M S ten nx) {L:Nat→Prop} (k:A8 L w w') (hL:∀ i,L i→¬HL hb b S i):E7 w' B hb b M S ten nx:=by
 have nhb:¬L hb:=fun q=>hL hb q (Or.inl rfl)
 refine⟨B7.keptA h.mem (fun i hi ho=>k.block i hi fun q=>hL i q (Or.inr ho)),h.hB,?_,k.cell (p:=⟨hb,0,none⟩) nhb h.ptr,k.cell (p:=⟨hb,1,none⟩) nhb h.tn,k.cell (p:=⟨hb,2,none⟩) nhb h.nxt,h.ne⟩;rw[k.block hb h.lt nhb];exact h.blk
open Go.ChangeShapes Go.WideShapes Go.ChangeAt Go.RowKit
theorem own:ownKnob Ze.godebug=none:=by kernel_rfl
theorem C5e : "*" ++ "errors.errorString" = "*errors.errorString":=by decide
theorem B6h (u:TypeId) (h:Ze.typeName? 3 u=some "*errors.errorString"):u=261 :=
 typeName_ptr_named (nm := "errors.errorString") (by rw[C5e];kernel_rfl) (by kernel_rfl) (by decide) u (by rw[C5e];exact h)
theorem B6g:Ze.cellsOf 279=1:=by kernel_rfl
theorem strCells:Ze.cellsOf 9=1:=by kernel_rfl
abbrev B6e (text:List UInt8):DataW Unit:=.iface "*errors.errorString" (.ptr (.agg [.lit (.string text)]))
theorem A6m {W:World} {n:String} {text:List UInt8} {g:Nat} (hg:Ze.globalNamed n=some g) (ht:(Ze.globals[g]?).map (·.type)=some 26)
  (h:laidMet Ze [(n,B6e text)] W):∃ a s,W.cell? ⟨g,0,none⟩=some (E0 a)∧W.cell? a=some (.string s)∧s.data.toList=text:=by
 obtain⟨ps,⟨g0,t0,cs0,f0,p0,q0,hg0,ht0,hv0,hd0,_,e0⟩,hnd,hrows⟩:=h;obtain rfl:=Option.some.inj (hg.symm.trans hg0);obtain rfl:=Option.some.inj (ht.symm.trans ht0);subst e0;obtain⟨l0⟩:=cs0;have ok0:∀ u v,l0=[.iface u v]→Value.okWide Ze W .any 0 u v:=fun u v e=>by
  subst e;exact (hrows g 0 (by simp[MemPlace.row])).2 u v (by simpa using Zf hg0 hv0 0)
 obtain⟨a0,s0,rfl,hc0,hs0,hz0,rfl⟩:=errorString_of_trod Tryz.underlying26 B6h Tryz.underlying261 Tryz.underlying279 rfl rfl Tryz.underlying9 B6g strCells hd0 ok0;exact⟨a0,s0,by simpa using Zf hg0 hv0 0,hc0,hs0⟩
theorem B0j {W:World} {n:String} {text:List UInt8} {g:Nat} (hg:Ze.globalNamed n=some g) (ht:(Ze.globals[g]?).map (·.type)=some 26)
  (h:laidMet Ze [(n,B6e text)] W) {a:Addr} (ha:W.cell? ⟨g,0,none⟩=some (E0 a)):∃ c t,W.heap[a.block]?=some (.cells c t (0,0)):=by
 obtain⟨ps,⟨g0,t0,cs0,f0,p0,q0,hg0,ht0,hv0,hd0,_,e0⟩,hnd,hrows⟩:=h;obtain rfl:=Option.some.inj (hg.symm.trans hg0);obtain rfl:=Option.some.inj (ht.symm.trans ht0);subst e0;obtain⟨l0⟩:=cs0;have ok0:∀ u v,l0=[.iface u v]→Value.okWide Ze W .any 0 u v:=fun u v e=>by
  subst e;exact (hrows g 0 (by simp[MemPlace.row])).2 u v (by simpa using Zf hg0 hv0 0)
 obtain⟨a0,s0,rfl,hc0,hs0,hz0,rfl⟩:=errorString_of_trod Tryz.underlying26 B6h Tryz.underlying261 Tryz.underlying279 rfl rfl Tryz.underlying9 B6g strCells hd0 ok0;have e0:W.cell? ⟨g,0,none⟩=some (E0 a0):=by simpa using Zf hg0 hv0 0
 rw[e0] at ha;have ea:a0=a:=by injection ha with ha;injection ha with _ ha;injection ha with ha;injection ha
 subst ea;exact (hrows a0.block a0.off (by simp[MemPlace.row])).1
theorem A0t {W:World} {n m:String} {tn tm:List UInt8} {g k:Nat} (hg:Ze.globalNamed n=some g) (ht:(Ze.globals[g]?).map (·.type)=some 26)
  (hk:Ze.globalNamed m=some k) (hkt:(Ze.globals[k]?).map (·.type)=some 26)
  (h:laidMet Ze [(n,B6e tn),(m,B6e tm)] W) {a b:Addr} (ha:W.cell? ⟨g,0,none⟩=some (E0 a)) (hb:W.cell? ⟨k,0,none⟩=some (E0 b)):a≠b:=by
 obtain⟨ps,⟨g0,t0,cs0,f0,p0,q0,hg0,ht0,hv0,hd0,⟨g1,t1,cs1,f1,p1,q1,hg1,ht1,hv1,hd1,hq1,e1⟩,e0⟩,hnd,hrows⟩:=h;obtain rfl:=Option.some.inj (hg.symm.trans hg0);obtain rfl:=Option.some.inj (hk.symm.trans hg1);obtain rfl:=Option.some.inj (ht.symm.trans ht0);obtain rfl:=Option.some.inj (hkt.symm.trans ht1);have hq1':q1=[]:=hq1;subst hq1';subst e1;subst e0;obtain⟨l0⟩:=cs0;obtain⟨l1⟩:=cs1;have ok0:∀ u v,l0=[.iface u v]→Value.okWide Ze W .any 0 u v:=fun u v e=>by
  subst e;exact (hrows g 0 (by simp[MemPlace.row])).2 u v (by simpa using Zf hg0 hv0 0)
 have ok1:∀ u v,l1=[.iface u v]→Value.okWide Ze W .any 0 u v:=fun u v e=>by
  subst e;exact (hrows k 0 (by simp[MemPlace.row])).2 u v (by simpa using Zf hg1 hv1 0)
 obtain⟨a0,s0,rfl,hc0,hs0,hz0,rfl⟩:=errorString_of_trod Tryz.underlying26 B6h Tryz.underlying261 Tryz.underlying279 rfl rfl Tryz.underlying9 B6g strCells hd0 ok0;obtain⟨a1,s1,rfl,hc1,hs1,hz1,rfl⟩:=errorString_of_trod Tryz.underlying26 B6h Tryz.underlying261 Tryz.underlying279 rfl rfl Tryz.underlying9 B6g strCells hd1 ok1;have e0:W.cell? ⟨g,0,none⟩=some (E0 a0):=by simpa using Zf hg0 hv0 0
 have e1:W.cell? ⟨k,0,none⟩=some (E0 a1):=by simpa using Zf hg1 hv1 0
 rw[e0] at ha;rw[e1] at hb;have ea:a0=a:=by injection ha with ha;injection ha with _ ha;injection ha with ha;injection ha
 have eb:a1=b:=by injection hb with hb;injection hb with _ hb;injection hb with hb;injection hb
 subst ea eb;rintro rfl;simp[MemPlace.row] at hnd
theorem gB:Ze.globalNamed "nurserypy/api.ErrBound"=some 0:=by kernel_rfl
theorem gBt:(Ze.globals[0]?).map (·.type)=some 26:=by kernel_rfl
theorem gS:Ze.globalNamed "nurserypy/api.ErrShape"=some 3:=by kernel_rfl
theorem gSt:(Ze.globals[3]?).map (·.type)=some 26:=by kernel_rfl
theorem gP:Ze.globalNamed "nurserypy/api.ErrPlace"=some 1:=by kernel_rfl
theorem gPt:(Ze.globals[1]?).map (·.type)=some 26:=by kernel_rfl
theorem gF:Ze.globalNamed "nurserypy/api.ErrFull"=some 2:=by kernel_rfl
theorem gFt:(Ze.globals[2]?).map (·.type)=some 26:=by kernel_rfl
theorem E4p:laidOutB Ze=true:=by kernel_rfl
theorem F7y {H:Type} {enc:TypeId × Value→H} {W W':World} (hb:A0 W W'):∀ {ts:List TypeId} {vs:List Value} {ds:List (DataW H)} {ps:List MemPlace},
  (∀ t∈ts,Ze.readableRec t=true∧t<Ze.types.size)→(∀ x∈ps,x.block<W.heap.size) →
  DataW.TrodAll enc Ze W 0 (fun _=>true) true ts vs ds ps→DataW.TrodAll enc Ze W' 0 (fun b=>decide (b<W.heap.size)) true ts vs ds ps:=by
 intro ts
 induction ts with
 | nil =>
  intro vs ds ps _ _ h;obtain⟨rfl,rfl,rfl⟩:=trodAll_nil h;exact trodAll_mk0
 | cons t ts ih =>
  intro vs ds ps hr hlt h;obtain⟨v,vs',d,ds',p,q,rfl,rfl,rfl,h0,r0⟩:=trodAll_cons h;have ht:=hr t (by simp);exact trodAll_cons_mk (Below.trod E4p ht.1 ht.2 h0 hb (fun x hx=>hlt x (by simp[hx]))) (ih (fun t h=>hr t (by simp[h])) (fun x hx=>hlt x (by simp[hx])) r0)
theorem C7w {H:Type} {enc:TypeId × Value→H} {f:Func} {s:ChangeSpec} {W W':World} {args:Array Value} {ds gs:List (DataW H)} {before:List MemPlace}
  (hrt:f.resultTypes=#[4]) (hsv:s.vars=[]) (hW:DataW.Whole enc Ze f.params.toList s.vars false W args.toList ds gs before)
  (hfn:s.fn H (ds++gs)={results:=[.lit (.bool true)],args:=ds}) (hr:∀ t∈f.params.toList,Ze.readableRec t=true∧t<Ze.types.size) (hb:A0 W W') :
  s.post enc Ze f false true false false W args (.bool true) W':=by
 have hlt:=fun x hx=>hW.lt x hx
 obtain⟨p,q,hA,hV,hpq,hfz,hnd⟩:=id hW;rw[hsv] at hV;obtain⟨rfl,rfl⟩:=trodVars_none hV;subst hpq;refine⟨ds,[],_,[],p,[],hW,?_,?_,?_,?_,fun h=>by cases h⟩
 ·rw[hfn,hrt];exact trodAll_mk1 (shut_bool Tryz.underlying4 true)
 ·rw[hfn];exact F7y hb hr (fun x hx=>by simpa using hlt x (by simp[hx])) hA
 ·rw[hfn,hsv];rfl
 ·exact hb.frame _
end Go.Proofs.YtelhoppfidibiaaGreatDoor
