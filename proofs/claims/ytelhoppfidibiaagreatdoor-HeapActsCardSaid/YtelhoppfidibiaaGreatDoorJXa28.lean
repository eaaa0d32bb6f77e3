/- The walk of Heap.root: is each of some numbers a root's? -/
import Derived.Test.YtelhoppfidibiaaGreatDoorJXa27
set_option linter.unusedSimpArgs false
set_option linter.unusedVariables false
set_option maxHeartbeats 4000000
set_option maxRecDepth 100000
namespace Go.Proofs.YtelhoppfidibiaaGreatDoor
open Go.RowKit
open Bool renaming and_eq_true→Za,false_eq_true→Zb
open Int renaming toNat_natCast→Zc
open IntWalk renaming i64_in→Zd
open List renaming getElem?_eq_none→Ze,length_singleton→Zf,mem_singleton→Zg
open Nat renaming zero_add→Zh
open Go.Proofs.Tryz renaming prog→Zi
open World renaming cell?_of_block→Zj,frozen?_of_block→Zk
def noR (n:Nat) (r:Int):Bool:=decide (r<0)||decide ((n:Int)≤r)
theorem F0t (args:Array Value) (w:World):(callFunc 86 args).run Zi w=.ok (.enter 86 args) w:=by kernel_rfl
theorem F0u (W:World) (rb hb b:Nat) (ra:Option Addr) (n rc:Nat) (h0:W.cell? ⟨rb,0,none⟩=some (.pointer (some ⟨hb,0,none⟩))) (h1:W.cell? ⟨hb,0,none⟩=some (.pointer (some ⟨b,0,none⟩))) (h2:W.cell? ⟨b,7,none⟩=some (.slice ra n rc)) (x:Int) :
  Calls Zi 86 #[.int .i64 x,.pointer (some ⟨rb,0,none⟩)] W fun e w'=>e=.returned (.bool (noR n x))∧w'=W:=by
 unfold noR;by_cases hx:x<0
 ·rw[decide_eq_true hx,Bool.true_or]
  go_enter Tryz.func86,Tryz.ntmps86
  go_wp2;go_ret;exact⟨rfl,rfl⟩
 ·rw[decide_eq_false hx,Bool.false_or]
  go_enter Tryz.func86,Tryz.ntmps86
  go_wp2;go_ret;exact⟨rfl,rfl⟩
theorem F0v (w:World) (hb b:Nat) (ra:Option Addr) (n rc:Nat) (t:TypeId) (h1:w.cell? ⟨hb,0,none⟩=some (.pointer (some ⟨b,0,none⟩))) (h2:w.cell? ⟨b,7,none⟩=some (.slice ra n rc)) :
  B9h (w.alloc (.cells #[.pointer (some ⟨hb,0,none⟩)] t)) 86 #[.pointer (some ⟨w.heap.size,0,none⟩)] (noR n):=by
 intro W x hX x0 x1;show Calls _ _ #[.int .i64 x,.pointer (some ⟨w.heap.size,0,none⟩)] W _;have hx:=((A0.refl w).alloc_ (.cells #[.pointer (some ⟨hb,0,none⟩)] t)).trans_ hX;refine (F0u W w.heap.size hb b ra n rc (hX.cell_ (p:=⟨w.heap.size,0,none⟩) (by rw[World.cell?,heap_alloc_new];rfl)) (hx.cell_ h1) (hx.cell_ h2) x).mono ?_;rintro e w' ⟨rfl,rfl⟩;exact⟨rfl,hX⟩
theorem D1b (w:World) (hb b:Nat) (ra:Option Addr) (n rc:Nat) (h1:w.cell? ⟨hb,0,none⟩=some (.pointer (some ⟨b,0,none⟩))) (h2:w.cell? ⟨b,7,none⟩=some (.slice ra n rc)) (la:Option Addr) (lc:Nat) (l:List Int) (hz:l.length≤9223372036854775807)
  (hR:F7 w la (A6w l)) (hl:∀ x∈l,-9223372036854775808≤x∧x≤9223372036854775807) :
  Calls Zi 40 #[.pointer (some ⟨hb,0,none⟩),.slice la l.length lc] w fun e w'=>e=.returned (.bool (!l.any (noR n)))∧A0 w w':=by
 have HC:=Hz (D8h (noR n) 86 #[.pointer (some ⟨w.heap.size,0,none⟩)] F0t la lc l (w.alloc (.cells #[.pointer (some ⟨hb,0,none⟩)] 24)) hz (hR.ext ((A0.refl _).alloc_ _)) hl (F0v w hb b ra n rc _ h1 h2));clear hR hl h1 h2 hz;generalize hB:l.any (noR n)=B at *
 go_enter Tryz.func40,Tryz.ntmps40
 go_wp2_with (go_at_call 85;refine HC.out.mono ?_;rintro e w1 ⟨rfl,hq⟩;have HX:Hid (A0 w w1):=((A0.refl w).alloc_ _).trans_ hq;clear hq)
 go_ret;exact⟨rfl,HX.out⟩
def Z1 (M:A7) (r:Nat) (x:Int):A7:={M with roots:=M.roots.set r x}
section
variable {B hb b:Nat} {M:A7} {S:C8} {E:Nat→Addr} {ten nx:Int}
theorem F1j (a:Addr) (r x:Int) (w:World) :
  Calls Zi 42 #[.pointer (some ⟨hb,0,none⟩),.int .i64 r,.int .u64 x,E0 a] w fun e w'=>e=.returned (E0 a)∧w'=w:=by
 go_enter Tryz.func42,Tryz.ntmps42
 go_wp2;go_ret;exact⟨rfl,rfl⟩
theorem F1k (w:World) (hH:E7 w B hb b M S ten nx) (hok:M.Ok) (r:Nat) (hr:r<M.roots.length) (x:Int) :
  Calls Zi 42 #[.pointer (some ⟨hb,0,none⟩),.int .i64 (r:Int),.int .u64 x,.nilIface] w (R8 w B hb b S ten (Z1 M r x) nx .nilIface):=by
 obtain⟨g,hg,hgB,hgl,hgf,hgc,-⟩:=Q3 hH.mem.fR (by omega);have hM:=hH.mem.mem hok;have q0:=hH.ptr;have c7:=hM.roots;simp only[Zh] at c7;rw[hg] at c7;have hcell:w.cell? ⟨g,r,none⟩=some (.int .u64 (M.roots.getD r 0)):=by
  have:=hM.rR;rw[hg] at this;simpa using this.at_ (K2 M.roots r hr)
 have hfg:=hgf r;have hwl:=hok.lenR;have hltz:(r:Int)<(M.roots.length:Int):=by omega
 have HH:=Hz hH;have HG:=Hz hg;have HR:=Hz hr;clear hH hM hg hgf hr
 go_enter Tryz.func42,Tryz.ntmps42
 go_wp2;go_ret;obtain⟨g1,g2⟩:=HH.out.step (B7.setR HH.out.mem HG.out r HR.out x) (A8.set_ (L:=G1 b S) (A8.refl _ w) (p:=⟨g,r,none⟩) (Or.inl (Or.inr (Or.inr (Or.inl HG.out)))) _) (fun _ q=>Or.inl q);exact⟨rfl,S,g1,g2⟩
end
def rootB (M:A7) (r:Int):Bool:=!noR M.roots.length r
theorem Y2 {M:A7} {r:Int}:rootB M r=true↔0≤r∧r<(M.roots.length:Int):=by
 unfold rootB noR;simp
def P5 (N:A7) (c:Int) (r:Nat) (x:Int):A7:=if c=0 then Z1 N r x else N
def A0g (M:A7) (ten v:Int):Int:=if U2 v then P6 v else if J0 M ten 1=0 then D3 (U1 M ten 1) else 0
def Y9 (M:A7) (ten v:Int):Int:=if U2 v then 0 else J0 M ten 1
def B9r (N:A7) (a:Nat) (v:Int):A7:={N with W:=N.W.set (a+1) (IntKind.u64.wrap v)}
def U7 (M:A7) (ten v:Int):A7:=if U2 v then M else if J0 M ten 1=0 then B9r (J1 M ten 1 1) (U1 M ten 1).toNat v else J1 M ten 1 1
section
variable {B hb b:Nat} {M:A7} {S:C8} {E:Nat→Addr} {ten nx:Int}
theorem B8g (w:World) (hH:E7 w B hb b M S ten nx) (hok:M.Ok) (c:Int) (r:Nat) (hr:r<M.roots.length) (x:Int) :
  Calls Zi 42 #[.pointer (some ⟨hb,0,none⟩),.int .i64 (r:Int),.int .u64 x,F1 E c] w (R8 w B hb b S ten (P5 M c r x) nx (F1 E c)):=by
 by_cases hc:c=0
 ·have e1:F1 E c=.nilIface:=by rw[hc];rfl
  have e2:P5 M c r x=Z1 M r x:=if_pos hc;rw[e1,e2];exact F1k w hH hok r hr x
 ·have e2:P5 M c r x=M:=if_neg hc;rw[B0k E c hc,e2];refine (F1j _ (r:Int) x w).mono ?_;rintro e w' ⟨rfl,rfl⟩;exact⟨rfl,S,hH,D7.of_ext (A0.refl _)⟩
theorem A2o (w:World) (hH:E7 w B hb b M S ten nx) (hok:M.Ok) (lb:Nat) (r:Int) (h0:-9223372036854775808≤r) (h1:r≤9223372036854775807) (hc:w.cell? ⟨lb,0,none⟩=some (.int .i64 r)) :
  Calls Zi 40 #[.pointer (some ⟨hb,0,none⟩),.slice (some ⟨lb,0,none⟩) 1 1] w fun e w'=>e=.returned (.bool (rootB M r))∧A0 w w':=by
 have hM:=hH.mem.mem hok;have c7:=hM.roots;simp only[Zh] at c7;have:=D1b w hb b S.R.1 M.roots.length S.R.2 hH.ptr c7 (some ⟨lb,0,none⟩) 1 [r] (by simp) (fun j u hj=>by
  obtain rfl:j=0:=by
   rcases Nat.eq_zero_or_pos j with q|q
   ·exact q
   ·rw[Ze (by simp[A6w];omega)] at hj;cases hj
  simp[A6w] at hj;subst hj;exact⟨lb,0,rfl,hc⟩) (by intro x hx;rw[Zg.1 hx];exact⟨h0,h1⟩)
 simpa [rootB] using this
theorem B0x (w:World) (hH:E7 w B hb b M S ten nx) (hok:M.Ok) (lb:Nat) (r s:Int) (h0:-9223372036854775808≤r∧r≤9223372036854775807) (h1:-9223372036854775808≤s∧s≤9223372036854775807) (hc:w.cell? ⟨lb,0,none⟩=some (.int .i64 r)) (hd:w.cell? ⟨lb,1,none⟩=some (.int .i64 s)) :
  Calls Zi 40 #[.pointer (some ⟨hb,0,none⟩),.slice (some ⟨lb,0,none⟩) 2 2] w fun e w'=>e=.returned (.bool (rootB M r&&rootB M s))∧A0 w w':=by
 have hM:=hH.mem.mem hok;have c7:=hM.roots;simp only[Zh] at c7;have:=D1b w hb b S.R.1 M.roots.length S.R.2 hH.ptr c7 (some ⟨lb,0,none⟩) 2 [r,s] (by simp) (fun j u hj=>by
  rcases Nat.lt_or_ge j 2 with q|q
  ·have q2:j=0∨j=1:=by omega
   rcases q2 with rfl|rfl
   ·simp[A6w] at hj;subst hj;exact⟨lb,0,rfl,hc⟩
   ·simp[A6w] at hj;subst hj;exact⟨lb,0,rfl,hd⟩
  ·rw[Ze (by simp[A6w];omega)] at hj;cases hj) (by
  intro x hx;rcases List.mem_cons.1 hx with rfl|hx
  ·exact h0
  ·rw[Zg.1 hx];exact h1)
 simpa [rootB] using this
theorem C0x (v:Int) (w:World):Calls Zi 108 #[.int .i64 v] w fun e w'=>e=.returned (.bool (U2 v))∧A0 w w':=by
 refine (E3x v w).mono ?_;rintro e w9 ⟨rfl,rfl⟩;exact⟨rfl,A0.refl _⟩
theorem C9n (w:World) (hH:E7 w B hb b M S ten nx) (hI:D6 M nx) (hE:G4 E w) (ht:0≤ten∧ten≤15) (hB:GB B) :
  Calls Zi 41 #[.pointer (some ⟨hb,0,none⟩),.int .i64 1,.int .i64 1] w (B2x w B hb b M S E ten nx 1 1):=B7t 1 1 w hH hI hE ht hB (by omega) (by omega)
theorem E8f (w:World) (hH:E7 w B hb b M S ten nx) (hI:D6 M nx) (hE:G4 E w) (ht:0≤ten∧ten≤15) (hB:GB B) (v:Int) :
  Calls Zi 49 #[.pointer (some ⟨hb,0,none⟩),.int .i64 v] w (R8 w B hb b S ten (U7 M ten v) nx (.tuple #[.int .u64 (A0g M ten v),F1 E (Y9 M ten v)])):=by
 have HH:=Hz hH;have HI:=Hz hI;have HE:=Hz hE;have HB:=Hz hB;obtain⟨i1,i2,i3⟩:=A4z (sz:=1) ht hI 1 (by omega) (by omega);have I1:=Hz i1;have I3:=Hz i3;clear hH hI hE hB i1 i2 i3
 cases hs:U2 v with
 | true =>
  have e1:U7 M ten v=M:=by unfold U7;rw[hs];rfl
  have e2:A0g M ten v=P6 v:=by unfold A0g;rw[hs];rfl
  have e3:F1 E (Y9 M ten v)=.nilIface:=by unfold Y9;rw[hs];rfl
  rw[e1,e2,e3];have HSM:=Hz hs;clear hs e1 e2 e3
  go_enter Tryz.func49,Tryz.ntmps49
  go_wp2_with (first
   | (go_at_call 108;refine (C0x v _).mono ?_;rintro e w1 ⟨he,hq⟩;rw[HSM.out] at he;subst he;have HX1:=Hz hq;clear hq)
   | (go_at_call 109;refine (E3s v _).mono ?_;rintro e w9 ⟨rfl,hw9⟩;have hw9:=hw9.symm;subst hw9))
  go_ret2
  exact⟨rfl,S,HH.out.ext HX1.out,D7.of_ext HX1.out⟩
 | false =>
  by_cases hc:J0 M ten 1=0
  ·obtain⟨a,ha,hN⟩:=I3.out hc;have e1:U7 M ten v=B9r (J1 M ten 1 1) a v:=by unfold U7;rw[hs];simp only[Zb,if_false,if_pos hc];rw[ha];rfl
   have e2:A0g M ten v=D3 (a:Int):=by unfold A0g;rw[hs];simp only[Zb,if_false,if_pos hc];rw[ha]
   have e3:F1 E (Y9 M ten v)=.nilIface:=by unfold Y9;rw[hs];simp only[Zb,if_false];rw[hc];rfl
   rw[e1,e2,e3];have hlen:=hN.len;have hla:=A3u (K5 (L8 I1.out.chk).1).1;have f1:IntKind.i64.wrap ((a:Int)+1)=((a+1:Nat):Int):=by rw[Zd _ (by omega)];omega
   have HSM:=Hz hs;have HC0:Hid (F1 E (J0 M ten 1)=.nilIface):=by rw[Hid,hc];rfl
   have HPL:=Hz ha;obtain⟨N,hN2⟩:∃ N,N=J1 M ten 1 1:=⟨_,rfl⟩;rw[←hN2] at hlen hla ⊢;have HN2:=Hz hN2;clear hs e1 e2 e3 hN ha hc hN2
   go_enter Tryz.func49,Tryz.ntmps49
   go_upto_region 6 with (first
    | (go_at_call 108;refine (C0x v _).mono ?_;rintro e w1 ⟨he,hq⟩;rw[HSM.out] at he;subst he;have HX1:=Hz hq;clear hq)
    | (go_at_call 41;refine (C9n w1 (HH.out.ext HX1.out) HI.out (HE.out.ext HX1.out) ht HB.out).mono ?_;rintro e w2 ⟨he,S2,h1,h2⟩;rw[HC0.out,HPL.out] at he;subst he;rw[←HN2.out] at h1;have HH2:=Hz h1;have HS2:Hid (D7 hb b w S w2 S2):=(D7.of_ext HX1.out).trans_ h2;clear h1 h2))
   have q0:=HH2.out.ptr;obtain⟨g,hg,-,-,hgf,-,-⟩:=Q3 (B7.fW HH2.out.mem) (by omega);have hfg:=hgf (a+1);have c3:=(HH2.out.mem.fld ⟨3,78,1,S2.W.1,N.W.length,S2.W.2,C5 N.W⟩ (by simp[F3])).1;have hcell:=((R4 (B7.fW HH2.out.mem)).1);rw[hg] at hcell
   replace hcell:=hcell.at_ (K2 N.W (a+1) (by omega))
   simp only[Zh] at hcell;simp only[I6.val,hg] at c3;have hjl:a+1<N.W.length:=by omega
   obtain⟨z1,z2⟩:=HH2.out.setW hg (a+1) hjl (IntKind.u64.wrap v);have HZ1:=Hz z1;have HZ2:=Hz (HS2.out.trans_ z2);generalize N.W.getD (a+1) 0=xx at *
   clear z1 z2 hgf hg
   go_wp2_with (go_at_call 43;refine (B0g _ _).mono ?_;rintro e w9 ⟨rfl,hw9⟩;have hw9:=hw9.symm;subst hw9)
   go_ret2
   exact⟨rfl,S2,HZ1.out,HZ2.out⟩
  ·have e1:U7 M ten v=J1 M ten 1 1:=by unfold U7;rw[hs];simp only[Zb,if_false,if_neg hc]
   have e2:A0g M ten v=0:=by unfold A0g;rw[hs];simp only[Zb,if_false,if_neg hc]
   obtain⟨ea,hv⟩:∃ ea,Hid (F1 E (J0 M ten 1)=E0 ea):=⟨_,B0k E _ hc⟩;have e3:F1 E (Y9 M ten v)=E0 ea:=by unfold Y9;rw[hs];exact hv.out
   rw[e1,e2,e3];have HSM:=Hz hs;clear hs e1 e2 e3 hc
   go_enter Tryz.func49,Tryz.ntmps49
   go_wp2_with (first
    | (go_at_call 108;refine (C0x v _).mono ?_;rintro e w1 ⟨he,hq⟩;rw[HSM.out] at he;subst he;have HX1:=Hz hq;clear hq)
    | (go_at_call 41;refine (C9n w1 (HH.out.ext HX1.out) HI.out (HE.out.ext HX1.out) ht HB.out).mono ?_;rintro e w2 ⟨he,S2,h1,h2⟩;rw[hv.out] at he;subst he;have HH2:=Hz h1;have HS2:Hid (D7 hb b w S w2 S2):=(D7.of_ext HX1.out).trans_ h2;clear h1 h2))
   go_ret2
   exact⟨rfl,S2,HH2.out,HS2.out⟩
theorem C9g {v:Int} (ht:0≤ten∧ten≤15) (hI:D6 M nx):D6 (U7 M ten v) nx∧Q8 M (U7 M ten v):=by
 unfold U7
 split
 ·exact⟨hI,Q8.refl M⟩
 ·obtain⟨i1,i2,i3⟩:=A4z (sz:=1) ht hI 1 (by omega) (by omega)
  split
  ·rename_i hc;obtain⟨a,ha,hN⟩:=i3 hc;obtain⟨lN,lO,hg,hm⟩:=hN.good;have hr:D2 (B3 (A6 (J1 M ten 1 1).W a))=true:=by rw[hN.hd];decide
   have hsz:A9 (J1 M ten 1 1).W a=1:=by unfold A9;rw[hN.hd];decide
   have hl:=hN.len;rw[ha];obtain⟨k1,k2,k3⟩:=C2h i1 hg hm hr ((J1 M ten 1 1).W.set (a+1) (IntKind.u64.wrap v)) (by simp) (fun i hi=>by rw[hsz] at hi;rw[A2r _ _ _ _ (by omega)]) (fun x hx=>by
    rcases List.mem_or_eq_of_mem_set hx with q|q
    ·exact i1.ok.W x q
    ·rw[q,IntKind.wrap_u64];omega)
   exact⟨k1,i2.trans k2⟩
  ·exact⟨i1,i2⟩
theorem E3v (w:World) (hH:E7 w B hb b M S ten nx) (hI:D6 M nx) (hE:G4 E w) (r:Int) (hr0:-9223372036854775808≤r∧r≤9223372036854775807) (v:Int) (hR:rootB M r=false) :
  Calls Zi 15 #[.pointer (some ⟨hb,0,none⟩),.int .i64 r,.int .i64 v] w (R8 w B hb b S ten M nx (F1 E 5)):=by
 have HH:=Hz hH;have HI:=Hz hI;have HE:=Hz hE;have HR:=Hz hR;have k2:∀ W,A0 w W→W.cell? ⟨1,0,none⟩=some (E0 (E 4)):=fun W hX=>(hE.ext hX).place
 clear hH hI hE hR
 go_enter Tryz.func15,Tryz.ntmps15
 go_wp2_with (go_at_call 40;refine (A2o _ (HH.out.ext ((A0.refl w).alloc_ _)) HI.out.ok w.heap.size r hr0.1 hr0.2 (by rw[World.cell?,heap_alloc_new];rfl)).mono ?_;rintro e w1 ⟨he,hq⟩;rw[HR.out] at he;subst he;have HX1:Hid (A0 w w1):=((A0.refl w).alloc_ _).trans_ hq;clear hq;have k3:=(HE.out.ext HX1.out).place)
 go_ret;exact⟨rfl,S,HH.out.ext HX1.out,D7.of_ext HX1.out⟩
theorem C7e (w:World) (hH:E7 w B hb b M S ten nx) (hI:D6 M nx) (hE:G4 E w) (ht:0≤ten∧ten≤15) (hB:GB B) (r:Int) (hr0:-9223372036854775808≤r∧r≤9223372036854775807) (hR:rootB M r=true) (v:Int) :
  Calls Zi 15 #[.pointer (some ⟨hb,0,none⟩),.int .i64 r,.int .i64 v] w (R8 w B hb b S ten (P5 (U7 M ten v) (Y9 M ten v) r.toNat (A0g M ten v)) nx (F1 E (Y9 M ten v))):=by
 have HH:=Hz hH;have HI:=Hz hI;have HE:=Hz hE;have HR:=Hz hR;have HB:=Hz hB;obtain⟨rn,rfl⟩:∃ rn:Nat,r=(rn:Int):=⟨r.toNat,by have:=(Y2.1 hR).1;omega⟩;have hrl:rn<M.roots.length:=by have:=(Y2.1 hR).2;omega
 have hIN:=C9g (v:=v) ht hI;have HIN:=Hz hIN.1;have hrl2:rn<(U7 M ten v).roots.length:=by rw[hIN.2.roots];exact hrl
 simp only[Zc];have HRL:=Hz hrl2;generalize hV:A0g M ten v=V;have HV:=Hz hV;clear hH hI hE hR hB hIN hrl2 hV
 go_enter Tryz.func15,Tryz.ntmps15
 go_wp2_with (first
  | (go_at_call 40;refine (A2o _ (HH.out.ext ((A0.refl w).alloc_ _)) HI.out.ok w.heap.size (rn:Int) hr0.1 hr0.2 (by rw[World.cell?,heap_alloc_new];rfl)).mono ?_;rintro e w1 ⟨he,hq⟩;rw[HR.out] at he;subst he;have HX1:Hid (A0 w w1):=((A0.refl w).alloc_ _).trans_ hq;clear hq)
  | (go_at_call 49;refine (E8f _ (HH.out.ext HX1.out) HI.out (HE.out.ext HX1.out) ht HB.out v).mono ?_;rintro e w2 ⟨he,S2,h1,h2⟩;rw[HV.out] at he;subst he;have HH2:=Hz h1;have HS2:Hid (D7 hb b w S w2 S2):=(D7.of_ext HX1.out).trans_ h2;clear h1 h2)
  | (go_at_call 42;refine (B8g (E:=E) w2 HH2.out HIN.out.ok (Y9 M ten v) rn HRL.out V).mono ?_;rintro e w3 ⟨rfl,S3,h3,h4⟩;have HH3:=Hz h3;have HS3:Hid (D7 hb b w S w3 S3):=HS2.out.trans_ h4;clear h3 h4))
 go_ret;exact⟨rfl,S3,HH3.out,HS3.out⟩
theorem D8f (w:World) (hH:E7 w B hb b M S ten nx) (hI:D6 M nx) (hE:G4 E w) (r:Int) (hr0:-9223372036854775808≤r∧r≤9223372036854775807) (v:Int) (hR:rootB M r=false) :
  Calls Zi 22 #[.pointer (some ⟨hb,0,none⟩),.int .i64 r,.int .i64 v] w (R8 w B hb b S ten M nx (F1 E 5)):=by
 have HH:=Hz hH;have HI:=Hz hI;have HE:=Hz hE;have HR:=Hz hR;have k2:∀ W,A0 w W→W.cell? ⟨1,0,none⟩=some (E0 (E 4)):=fun W hX=>(hE.ext hX).place
 clear hH hI hE hR
 go_enter Tryz.func22,Tryz.ntmps22
 go_wp2_with (go_at_call 40;refine (A2o _ (HH.out.ext ((A0.refl w).alloc_ _)) HI.out.ok w.heap.size r hr0.1 hr0.2 (by rw[World.cell?,heap_alloc_new];rfl)).mono ?_;rintro e w1 ⟨he,hq⟩;rw[HR.out] at he;subst he;have HX1:Hid (A0 w w1):=((A0.refl w).alloc_ _).trans_ hq;clear hq;have k3:=(HE.out.ext HX1.out).place)
 go_ret;exact⟨rfl,S,HH.out.ext HX1.out,D7.of_ext HX1.out⟩
def A5y (v:Int):Int:=if 0≤v∧v≤2 then 0 else 2
def A7w (v:Int):Int:=if 0≤v∧v≤2 then P3 v else 0
theorem E8v (v:Int) (w:World) (hE:G4 E w):Calls Zi 67 #[.int .i64 v] w fun e w'=>e=.returned (.tuple #[.int .u64 (A7w v),F1 E (A5y v)])∧A0 w w':=by
 unfold A7w A5y;by_cases h:0≤v∧v≤2
 ·rw[if_pos h,if_pos h];refine (E8x v h w).mono ?_;rintro e w9 ⟨rfl,hq⟩;refine⟨rfl,?_⟩
  first|exact hq|(rw[hq];exact A0.refl _)
 ·rw[if_neg h,if_neg h];refine (E8w v h w (E 1) hE.bound).mono ?_;rintro e w9 ⟨rfl,hq⟩;refine⟨rfl,?_⟩
  first|exact hq|(rw[hq];exact A0.refl _)
theorem D8g (w:World) (hH:E7 w B hb b M S ten nx) (hI:D6 M nx) (hE:G4 E w) (r:Int) (hr0:-9223372036854775808≤r∧r≤9223372036854775807) (hR:rootB M r=true) (v:Int) :
  Calls Zi 22 #[.pointer (some ⟨hb,0,none⟩),.int .i64 r,.int .i64 v] w (R8 w B hb b S ten (P5 M (A5y v) r.toNat (A7w v)) nx (F1 E (A5y v))):=by
 have HH:=Hz hH;have HI:=Hz hI;have HE:=Hz hE;have HR:=Hz hR;obtain⟨rn,rfl⟩:∃ rn:Nat,r=(rn:Int):=⟨r.toNat,by have:=(Y2.1 hR).1;omega⟩;have hrl:rn<M.roots.length:=by have:=(Y2.1 hR).2;omega
 simp only[Zc];have HRL:=Hz hrl;generalize hV:A7w v=V;have HV:=Hz hV;clear hH hI hE hR hrl hV
 go_enter Tryz.func22,Tryz.ntmps22
 go_wp2_with (first
  | (go_at_call 40;refine (A2o _ (HH.out.ext ((A0.refl w).alloc_ _)) HI.out.ok w.heap.size (rn:Int) hr0.1 hr0.2 (by rw[World.cell?,heap_alloc_new];rfl)).mono ?_;rintro e w1 ⟨he,hq⟩;rw[HR.out] at he;subst he;have HX1:Hid (A0 w w1):=((A0.refl w).alloc_ _).trans_ hq;clear hq)
  | (go_at_call 67;refine (E8v v _ (HE.out.ext HX1.out)).mono ?_;rintro e w2 ⟨he,hq⟩;rw[HV.out] at he;subst he;have HX2:Hid (A0 w w2):=HX1.out.trans_ hq;have HH2:=Hz (HH.out.ext HX2.out);have HS2:Hid (D7 hb b w S w2 S):=D7.of_ext HX2.out;clear hq)
  | (go_at_call 42;refine (B8g (E:=E) w2 HH2.out HI.out.ok (A5y v) rn HRL.out V).mono ?_;rintro e w3 ⟨rfl,S3,h3,h4⟩;have HH3:=Hz h3;have HS3:Hid (D7 hb b w S w3 S3):=HS2.out.trans_ h4;clear h3 h4))
 go_ret;exact⟨rfl,S3,HH3.out,HS3.out⟩
theorem E5u (w:World) (hH:E7 w B hb b M S ten nx) (hI:D6 M nx) (hE:G4 E w) (r:Int) (hr0:-9223372036854775808≤r∧r≤9223372036854775807) (kind sz:Int) (hR:rootB M r=false) :
  Calls Zi 11 #[.pointer (some ⟨hb,0,none⟩),.int .i64 r,.int .i64 kind,.int .i64 sz] w (R8 w B hb b S ten M nx (F1 E 5)):=by
 have HH:=Hz hH;have HI:=Hz hI;have HE:=Hz hE;have HR:=Hz hR;have k2:∀ W,A0 w W→W.cell? ⟨1,0,none⟩=some (E0 (E 4)):=fun W hX=>(hE.ext hX).place
 clear hH hI hE hR
 go_enter Tryz.func11,Tryz.ntmps11
 go_wp2_with (go_at_call 40;refine (A2o _ (HH.out.ext ((A0.refl w).alloc_ _)) HI.out.ok w.heap.size r hr0.1 hr0.2 (by rw[World.cell?,heap_alloc_new];rfl)).mono ?_;rintro e w1 ⟨he,hq⟩;rw[HR.out] at he;subst he;have HX1:Hid (A0 w w1):=((A0.refl w).alloc_ _).trans_ hq;clear hq;have k3:=(HE.out.ext HX1.out).place)
 go_ret;exact⟨rfl,S,HH.out.ext HX1.out,D7.of_ext HX1.out⟩
theorem E5s (w:World) (hH:E7 w B hb b M S ten nx) (hI:D6 M nx) (hE:G4 E w) (r:Int) (hr0:-9223372036854775808≤r∧r≤9223372036854775807) (hR:rootB M r=true) (kind sz:Int) (hb1:kind<8∨255<kind∨sz<0∨4096<sz) :
  Calls Zi 11 #[.pointer (some ⟨hb,0,none⟩),.int .i64 r,.int .i64 kind,.int .i64 sz] w (R8 w B hb b S ten M nx (F1 E 2)):=by
 have HH:=Hz hH;have HI:=Hz hI;have HE:=Hz hE;have HR:=Hz hR;clear hH hI hE hR;have hb2:kind<8∨(¬kind<8∧255<kind)∨(¬kind<8∧¬255<kind∧sz<0)∨(¬kind<8∧¬255<kind∧¬sz<0∧4096<sz):=by omega
 clear hb1;rcases hb2 with b1|⟨b1,b2⟩|⟨b1,b2,b3⟩|⟨b1,b2,b3,b4⟩
 all_goals
  go_enter Tryz.func11,Tryz.ntmps11
  go_wp2_with (go_at_call 40;refine (A2o _ (HH.out.ext ((A0.refl w).alloc_ _)) HI.out.ok w.heap.size r hr0.1 hr0.2 (by rw[World.cell?,heap_alloc_new];rfl)).mono ?_;rintro e w1 ⟨he,hq⟩;rw[HR.out] at he;subst he;have HX1:Hid (A0 w w1):=((A0.refl w).alloc_ _).trans_ hq;clear hq;have k3:=(HE.out.ext HX1.out).bound)
  go_ret;exact⟨rfl,S,HH.out.ext HX1.out,D7.of_ext HX1.out⟩
theorem C8i (w:World) (hH:E7 w B hb b M S ten nx) (hI:D6 M nx) (hE:G4 E w) (ht:0≤ten∧ten≤15) (hB:GB B) (r:Int) (hr0:-9223372036854775808≤r∧r≤9223372036854775807) (hR:rootB M r=true) (kind:Int) (sz:Nat) (hk:8≤kind∧kind≤255) (hz:sz≤4096) :
  Calls Zi 11 #[.pointer (some ⟨hb,0,none⟩),.int .i64 r,.int .i64 kind,.int .i64 (sz:Int)] w (R8 w B hb b S ten (P5 (J1 M ten kind sz) (J0 M ten sz) r.toNat (D3 (U1 M ten sz))) nx (F1 E (J0 M ten sz))):=by
 have HH:=Hz hH;have HI:=Hz hI;have HE:=Hz hE;have HR:=Hz hR;have HB:=Hz hB;obtain⟨rn,rfl⟩:∃ rn:Nat,r=(rn:Int):=⟨r.toNat,by have:=(Y2.1 hR).1;omega⟩;have hrl:rn<M.roots.length:=by have:=(Y2.1 hR).2;omega
 have hIN:=A4z ht hI kind sz (by omega) hz;have HIN:=Hz hIN.1;have hrl2:rn<(J1 M ten kind sz).roots.length:=by rw[hIN.2.1.roots];exact hrl
 simp only[Zc];have HRL:=Hz hrl2;generalize hV:U1 M ten sz=V;have HV:=Hz hV;have t1:¬kind<8:=by omega
 have t2:¬255<kind:=by omega
 have t3:¬(sz:Int)<0:=by omega
 have t4:¬4096<(sz:Int):=by omega
 clear hH hI hE hR hB hIN hrl2 hV
 go_enter Tryz.func11,Tryz.ntmps11
 go_wp2_with (first
  | (go_at_call 40;refine (A2o _ (HH.out.ext ((A0.refl w).alloc_ _)) HI.out.ok w.heap.size (rn:Int) hr0.1 hr0.2 (by rw[World.cell?,heap_alloc_new];rfl)).mono ?_;rintro e w1 ⟨he,hq⟩;rw[HR.out] at he;subst he;have HX1:Hid (A0 w w1):=((A0.refl w).alloc_ _).trans_ hq;clear hq)
  | (go_at_call 41;refine (B7t kind sz _ (HH.out.ext HX1.out) HI.out (HE.out.ext HX1.out) ht HB.out ⟨by omega,hk.2⟩ hz).mono ?_;rintro e w2 ⟨he,S2,h1,h2⟩;rw[HV.out] at he;subst he;have HH2:=Hz h1;have HS2:Hid (D7 hb b w S w2 S2):=(D7.of_ext HX1.out).trans_ h2;clear h1 h2)
  | (go_at_call 43;refine (B0g _ _).mono ?_;rintro e w9 ⟨rfl,hw9⟩;have hw9:=hw9.symm;subst hw9)
  | (go_at_call 42;refine (B8g (E:=E) w2 HH2.out HIN.out.ok (J0 M ten sz) rn HRL.out (D3 V)).mono ?_;rintro e w3 ⟨rfl,S3,h3,h4⟩;have HH3:=Hz h3;have HS3:Hid (D7 hb b w S w3 S3):=HS2.out.trans_ h4;clear h3 h4))
 go_ret;exact⟨rfl,S3,HH3.out,HS3.out⟩
theorem E1x (w:World) (hH:E7 w B hb b M S ten nx) (hI:D6 M nx) (hE:G4 E w) (r:Int) (hr0:-9223372036854775808≤r∧r≤9223372036854775807) (s:Int) (hs0:-9223372036854775808≤s∧s≤9223372036854775807) (hR:(rootB M r&&rootB M s)=false) :
  Calls Zi 21 #[.pointer (some ⟨hb,0,none⟩),.int .i64 r,.int .i64 s] w (R8 w B hb b S ten M nx (F1 E 5)):=by
 have HH:=Hz hH;have HI:=Hz hI;have HE:=Hz hE;have HR:=Hz hR;clear hH hI hE hR
 go_enter Tryz.func21,Tryz.ntmps21
 go_wp2_with (go_at_call 40;refine (B0x _ (HH.out.ext ((A0.refl w).alloc_ _)) HI.out.ok w.heap.size r s hr0 hs0 (by rw[World.cell?,heap_alloc_new];rfl) (by rw[World.cell?,heap_alloc_new];rfl)).mono ?_;rintro e w1 ⟨he,hq⟩;rw[HR.out] at he;subst he;have HX1:Hid (A0 w w1):=((A0.refl w).alloc_ _).trans_ hq;clear hq;have k3:=(HE.out.ext HX1.out).place)
 go_ret;exact⟨rfl,S,HH.out.ext HX1.out,D7.of_ext HX1.out⟩
theorem E1y (w:World) (hH:E7 w B hb b M S ten nx) (hI:D6 M nx) (hE:G4 E w) (r:Int) (hr0:-9223372036854775808≤r∧r≤9223372036854775807) (s:Int) (hs0:-9223372036854775808≤s∧s≤9223372036854775807) (hR:(rootB M r&&rootB M s)=true) :
  Calls Zi 21 #[.pointer (some ⟨hb,0,none⟩),.int .i64 r,.int .i64 s] w (R8 w B hb b S ten (Z1 M r.toNat (M.roots.getD s.toNat 0)) nx (.nilIface)):=by
 have HH:=Hz hH;have HI:=Hz hI;have HE:=Hz hE;have HR:=Hz hR;obtain⟨hR1,hR2⟩:=Bool.and_eq_true_iff.1 hR;obtain⟨rn,rfl⟩:∃ rn:Nat,r=(rn:Int):=⟨r.toNat,by have:=(Y2.1 hR1).1;omega⟩;obtain⟨sn,rfl⟩:∃ sn:Nat,s=(sn:Int):=⟨s.toNat,by have:=(Y2.1 hR2).1;omega⟩;have hrl:rn<M.roots.length:=by have:=(Y2.1 hR1).2;omega
 have hsl:sn<M.roots.length:=by have:=(Y2.1 hR2).2;omega
 simp only[Zc];clear hH hI hE hR hR1 hR2
 go_enter Tryz.func21,Tryz.ntmps21
 go_upto_region 3 with (go_at_call 40;refine (B0x _ (HH.out.ext ((A0.refl w).alloc_ _)) HI.out.ok w.heap.size (rn:Int) (sn:Int) hr0 hs0 (by rw[World.cell?,heap_alloc_new];rfl) (by rw[World.cell?,heap_alloc_new];rfl)).mono ?_;rintro e w1 ⟨he,hq⟩;rw[HR.out] at he;subst he;have HX1:Hid (A0 w w1):=((A0.refl w).alloc_ _).trans_ hq;clear hq)
 have hH1:=HH.out.ext HX1.out;have q0:=hH1.ptr;obtain⟨g,hg,-,-,hgf,-,-⟩:=Q3 (B7.fR hH1.mem) (by omega);have hfg:=hgf rn;have c7:=(hH1.mem.fld ⟨7,78,1,S.R.1,M.roots.length,S.R.2,C5 M.roots⟩ (by simp[F3])).1;have hrow:=((R4 (B7.fR hH1.mem)).1);rw[hg] at hrow;have hcell:=hrow.at_ (K2 M.roots sn hsl);have hcel2:=hrow.at_ (K2 M.roots rn hrl);simp only[Zh] at hcell hcel2;simp only[I6.val,hg] at c7;generalize M.roots.getD sn 0=xx at *
 generalize M.roots.getD rn 0=yy at *
 have HG:=Hz hg;have HRL:=Hz hrl;clear hH1 hgf hg hrow;go_region;go_wp2;go_ret;obtain⟨z1,z2⟩:=(HH.out.ext (HX1.out.drew_)).step (B7.setR (HH.out.ext (HX1.out.drew_)).mem HG.out rn HRL.out xx) (A8.set_ (L:=G1 b S) (A8.refl _ _) (p:=⟨g,rn,none⟩) (Or.inl (Or.inr (Or.inr (Or.inl HG.out)))) _) (fun _ q=>Or.inl q);exact⟨rfl,S,z1,(D7.of_ext (HX1.out.drew_)).trans_ z2⟩
end
def A1k (u:Int):Bool:=(C7 u==0)&&(u != 0)
section
variable {B hb b:Nat} {M:A7} {S:C8} {E:Nat→Addr} {ten nx:Int}
theorem C0q (h:Value) (u:Int) (h0:0≤u) (h1:u≤18446744073709551615) (w:World) (hp:A1k u=false) :
  Calls Zi 47 #[h,.int .u64 u] w fun e w'=>e=.returned (.tuple #[.int .i64 0,.agg #[.int .i64 0,.int .i64 0,.int .i64 0,.int .i64 0],.bool false])∧A0 w w':=by
 have hd:(C7 u != 0)=true∨((C7 u != 0)=false∧(u==0)=true):=by
  unfold A1k at hp;by_cases hk:C7 u=0
  ·by_cases hz:u=0
   ·exact Or.inr ⟨by simp[hk],by simp[hz]⟩
   ·rw[show (C7 u==0)=true by simpa using hk,show (u != 0)=true by simpa using hz] at hp;cases hp
  ·exact Or.inl (by simpa using hk)
 clear hp;rcases hd with k0|⟨k0,k2⟩
 all_goals
  go_enter Tryz.func47,Tryz.ntmps47
  go_wp2_with (go_at_call 103;refine (O8 _ h0 h1 _).mono ?_;rintro e w' ⟨rfl,rfl⟩)
  exact bodyPost_ret (v:=.tuple #[.int .i64 0,.agg #[.int .i64 0,.int .i64 0,.int .i64 0,.int .i64 0],.bool false]) (by simp[results,Tryz.results47,go_sem]) rfl ⟨rfl,by repeat (first|exact A0.refl _|(refine A0.set_ ?_ (by simp) _)|(refine A0.drew_ ?_)|(refine A0.drewN_ ?_ _)|(refine A0.alloc_ ?_ _))⟩
theorem C2f (hg:goodB M=true) {u:Int} (hf:D0 (C6 M) u=true) (hp:A1k u=true):C7 u=0∧u≠0∧∃ x,x∈D8 M∧C9 u=(x.a:Int):=by
 unfold A1k at hp;rw[Za] at hp;have hk:C7 u=0:=by simpa using hp.1
 have hz:u≠0:=by simpa using hp.2
 unfold D0 at hf;rw[if_pos hk,Bool.or_eq_true] at hf;rcases hf with q|q
 ·exact absurd (by simpa using q) hz
 ·obtain⟨x,hx,e⟩:=List.mem_map.1 ((A9k _ _).1 q);exact⟨hk,hz,x,hx,e.symm⟩
theorem B4a (u:Int) (h0:0≤u) (h1:u≤18446744073709551615) (w:World) (hM:G8 w b 0 M S) (hp:w.cell? ⟨hb,0,none⟩=some (.pointer (some ⟨b,0,none⟩))) (hg:goodB M=true) (hk:C7 u=0) (hz:u≠0) (x:Ob) (hx:x∈D8 M) (hpl:C9 u=(x.a:Int)) :
  Calls Zi 47 #[.pointer (some ⟨hb,0,none⟩),.int .u64 u] w fun e w'=>e=.returned (.tuple #[.int .i64 (x.a:Int),A1g x.w,.bool true])∧A0 w w':=by
 obtain⟨hs,hob,-⟩:=K5 hg;obtain⟨m1,m2,m3⟩:=A2z hs hx;have hlt:x.a<M.W.length:=by omega
 have hin2:=O6 hM.ok x.a;rw[←m2] at hin2;obtain⟨wb,wo,hWa,hcell⟩:=hM.rW x.a _ (K2 M.W x.a hlt);have n3:=hM.W;simp only[Zh] at n3;rw[hWa] at n3;have hcell':w.cell? ⟨wb,wo+x.a,none⟩=some (.int .u64 x.w):=by rw[hcell,m2];rfl
 have k0:(C7 u != 0)=false:=by simpa using hk
 have k2:(u==0)=false:=by simpa using hz
 have hltz:(x.a:Int)<(M.W.length:Int):=by omega
 have hlen:=hM.ok.lenW;have hwl:=B9 hcell';have hbl:=B9 n3;have hhl:=B9 hp;simp only at hwl hbl hhl;have HPL:=Hz hpl;have HM3:=Hz m3;clear hM hs hob hg hx hWa hcell m1 m2 m3 hk hz hpl
 go_enter Tryz.func47,Tryz.ntmps47
 go_wp2_with (first
  | (go_at_call 103;refine (O8 _ h0 h1 _).mono ?_;rintro e w' ⟨rfl,rfl⟩)
  | (go_at_call 104;refine (A0h _ h0 h1 _).mono ?_;rintro e w' ⟨he,rfl⟩;rw[HPL.out] at he;subst he)
  | (go_at_call 56;refine (A3d x.w hin2.1 hin2.2 HM3.out _).mono ?_;rintro e w3 ⟨rfl,hq⟩;have HX3:Hid (A0 w w3):=A0.trans_ ((A0.refl w).alloc_ _) hq;obtain⟨t0,t1,t2,t3,u0,u1,u2,u3⟩:=E2e hq;have hz3:w.heap.size<w3.heap.size:=B9 t0;clear hq))
 refine P4 (fun W4 hW4=>?_);obtain⟨v0,v1,v2,v3,f0,f1,f2,f3,hE4⟩:=C6g hz3 t0 t1 t2 t3 u0 u1 u2 u3 (B3 x.w) (F4 x.w) (G5 x.w) (B5 x.w);rw[←hW4] at v0 v1 v2 v3 f0 f1 f2 f3 hE4;have hz4:w.heap.size<W4.heap.size:=B9 v0;have hX4:A0 w W4:=Below.trans HX3.out hE4;have HX4:=Hz hX4;clear hW4 hE4 hX4 t0 t1 t2 t3 u0 u1 u2 u3;go_region;go_wp2;refine C8v (fun W5 hW5=>?_);obtain⟨z0,z1,z2,z3,-,-,-,-,hE5⟩:=C6g hz4 v0 v1 v2 v3 f0 f1 f2 f3 (B3 x.w) (F4 x.w) (G5 x.w) (B5 x.w);have hX5:A0 w W5:=by rw[hW5];exact A0.drew_ (Below.trans HX4.out hE5)
 have HX5:=Hz hX5;have z0':W5.cell? ⟨w.heap.size,0,none⟩=some (.int .i64 (B3 x.w)):=by rw[hW5];exact z0
 have z1':W5.cell? ⟨w.heap.size,1,none⟩=some (.int .i64 (F4 x.w)):=by rw[hW5];exact z1
 have z2':W5.cell? ⟨w.heap.size,2,none⟩=some (.int .i64 (G5 x.w)):=by rw[hW5];exact z2
 have z3':W5.cell? ⟨w.heap.size,3,none⟩=some (.int .i64 (B5 x.w)):=by rw[hW5];exact z3
 clear hW5 hE5 hX5 z0 z1 z2 z3;exact bodyPost_ret (v:=.tuple #[.int .i64 (x.a:Int),.agg #[.int .i64 (B3 x.w),.int .i64 (F4 x.w),.int .i64 (G5 x.w),.int .i64 (B5 x.w)],.bool true]) (by simp[results,Tryz.results47,go_sem,z0',z1',z2',z3']) rfl ⟨rfl,HX5.out⟩
def fieldC (M:A7) (r f s:Int):Int :=
 if rootB M r&&rootB M s then (if A1k (M.roots.getD r.toNat 0)&&!D2 (B3 (A6 M.W (C9 (M.roots.getD r.toNat 0)).toNat)) then (if 0≤f∧f<B5 (A6 M.W (C9 (M.roots.getD r.toNat 0)).toNat) then 0 else 2) else 3) else 5
def A2e (M:A7) (r f:Int):Nat:=(C9 (M.roots.getD r.toNat 0)).toNat+1+f.toNat
theorem B6j (hg:goodB M=true) {r f s:Int} (h:fieldC M r f s=0):∃ (rn sn fn:Nat) (x:Ob),r=(rn:Int)∧s=(sn:Int)∧f=(fn:Int)∧rn<M.roots.length∧sn<M.roots.length∧x∈D8 M∧C9 (M.roots.getD rn 0)=(x.a:Int)∧D2 (B3 x.w)=false∧fn<x.n∧A2e M r f=x.a+1+fn:=by
 unfold fieldC at h
 split at h
 ·rename_i h1;rw[Za] at h1;obtain⟨r0,r1⟩:=Y2.1 h1.1;obtain⟨s0,s1⟩:=Y2.1 h1.2;obtain⟨rn,rfl⟩:∃ rn:Nat,r=(rn:Int):=⟨r.toNat,by omega⟩;obtain⟨sn,rfl⟩:∃ sn:Nat,s=(sn:Int):=⟨s.toNat,by omega⟩
  split at h
  ·rename_i h2;rw[Za,Bool.not_eq_true'] at h2;obtain⟨hs,hob,hro,-⟩:=K5 hg;have hp2:=h2.1;rw[Zc] at hp2;obtain⟨hk,hz,x,hx,hpl⟩:=C2f hg (A4d hro (by omega:rn<M.roots.length)) hp2;obtain⟨m1,m2,m3⟩:=A2z hs hx;have hr2:=h2.2;rw[Zc,hpl,Zc,←m2] at hr2
   split at h
   ·rename_i h3;rw[Zc,hpl,Zc,←m2] at h3;obtain⟨fn,rfl⟩:∃ fn:Nat,f=(fn:Int):=⟨f.toNat,by omega⟩;refine⟨rn,sn,fn,x,rfl,rfl,rfl,by omega,by omega,hx,hpl,hr2,?_,?_⟩
    ·have e:x.n=(B5 x.w).toNat:=rfl;omega
    ·unfold A2e;rw[Zc,Zc,hpl,Zc]
   ·cases h
  ·cases h
 ·cases h
theorem B6k (w:World) (hH:E7 w B hb b M S ten nx) (hI:D6 M nx) (hE:G4 E w) (r f s:Int) (hr0:-9223372036854775808≤r∧r≤9223372036854775807) (hs0:-9223372036854775808≤s∧s≤9223372036854775807) :
  Calls Zi 50 #[.pointer (some ⟨hb,0,none⟩),.int .i64 r,.int .i64 f,.int .i64 s] w (fun e w'=>e=.returned (.tuple #[.int .i64 (if fieldC M r f s=0 then (A2e M r f:Int) else 0),F1 E (fieldC M r f s)])∧A0 w w'):=by
 have HH:=Hz hH;have HI:=Hz hI;have HE:=Hz hE;have hgM:=(L8 hI.chk).1;obtain⟨hs,hob,hro,-⟩:=K5 hgM;have hlM:=A3u hs
 cases hR:rootB M r&&rootB M s with
 | false =>
  have e1:fieldC M r f s=5:=by unfold fieldC;rw[hR];rfl
  rw[e1,if_neg (by decide)];have HR:=Hz hR;clear hH hI hE hR e1 hgM hs hob hro hlM
  go_enter Tryz.func50,Tryz.ntmps50
  go_upto_region 2 with (go_at_call 40;refine (B0x _ (HH.out.ext ((A0.refl w).alloc_ _)) HI.out.ok w.heap.size r s hr0 hs0 (by rw[World.cell?,heap_alloc_new];rfl) (by rw[World.cell?,heap_alloc_new];rfl)).mono ?_;rintro e w1 ⟨he,hq⟩;rw[HR.out] at he;subst he;have HX1:Hid (A0 w w1):=((A0.refl w).alloc_ _).trans_ hq;clear hq)
  have k3:=(HE.out.ext HX1.out).place;go_region;go_wp2
  go_ret2
  exact⟨rfl,HX1.out.drew_⟩
 | true =>
  rw[Za] at hR;obtain⟨r0,r1⟩:=Y2.1 hR.1;obtain⟨rn,rfl⟩:∃ rn:Nat,r=(rn:Int):=⟨r.toNat,by omega⟩;have hrl:rn<M.roots.length:=by omega
  have hR':(rootB M (rn:Int)&&rootB M s)=true:=by rw[hR.1,hR.2];rfl
  have HR:=Hz hR';have hfd:=A4d hro hrl;have hub:0≤M.roots.getD rn 0∧M.roots.getD rn 0≤18446744073709551615:=Y1 (P:=fun x=>0≤x∧x≤18446744073709551615) hI.ok.roots hrl;have hrow:=(hH.mem.mem hI.ok).rR;obtain⟨rb,ro,hRa,hcell⟩:=hrow rn _ (K2 M.roots rn hrl);have c7:=(hH.mem.mem hI.ok).roots;simp only[Zh] at c7;rw[hRa] at c7;have q0:=hH.ptr;have hltz:(rn:Int)<(M.roots.length:Int):=by omega
  have hC7:=Hz c7;have hQ0:=Hz q0;have hCE:=Hz hcell
  cases hp:A1k (M.roots.getD rn 0) with
  | false =>
   have e1:fieldC M (rn:Int) f s=3:=by unfold fieldC;rw[hR',Zc,hp];rfl
   rw[e1,if_neg (by decide)];have HPT:=Hz hp;generalize M.roots.getD rn 0=u at *
   clear hH hI hE hR hR' e1 hgM hs hob hro hlM hp hfd hrow hRa c7 q0 hcell
   go_enter Tryz.func50,Tryz.ntmps50
   go_upto_region 3 with (go_at_call 40;refine (B0x _ (HH.out.ext ((A0.refl w).alloc_ _)) HI.out.ok w.heap.size (rn:Int) s hr0 hs0 (by rw[World.cell?,heap_alloc_new];rfl) (by rw[World.cell?,heap_alloc_new];rfl)).mono ?_;rintro e w1 ⟨he,hq⟩;rw[HR.out] at he;subst he;have HX1:Hid (A0 w w1):=((A0.refl w).alloc_ _).trans_ hq;clear hq)
   have q1:=HX1.out.cell_ hQ0.out;have q2:=HX1.out.cell_ hC7.out;have q3:=HX1.out.cell_ hCE.out
   go_upto_region 5 with (go_at_call 47;refine (C0q _ u hub.1 hub.2 _ HPT.out).mono ?_;rintro e w3 ⟨he,hq⟩;(try unfold A1g at he);subst he;have HX3:Hid (A0 w w3):=HX1.out.trans_ hq;clear hq)
   have k3:∀ o,(w3.alloc o).cell? ⟨3,0,none⟩=some (E0 (E 2)):=fun o=>(HE.out.ext (HX3.out.alloc_ o)).shape
   go_region;go_wp2
   go_ret2
   exact⟨rfl,by repeat (first|exact HX3.out|(refine A0.drew_ ?_)|(refine A0.alloc_ ?_ _))⟩
  | true =>
   obtain⟨hk,hz,x,hx,hpl⟩:=C2f hgM hfd hp;obtain⟨m1,m2,m3⟩:=A2z hs hx;have hxw:=O6 hI.ok x.a;rw[←m2] at hxw;obtain⟨k0,k1,-,-,-,-,z0⟩:=Z9 x.w hxw.1;have z1:=((A1v x.w).1 m3).2.2;have z1':B5 x.w≤4096:=z1;have hkd:B3 (A6 M.W (C9 (M.roots.getD rn 0)).toNat)=B3 x.w:=by rw[hpl,Zc,←m2]
   have hsd:B5 (A6 M.W (C9 (M.roots.getD rn 0)).toNat)=B5 x.w:=by rw[hpl,Zc,←m2]
   have hfP:A2e M (rn:Int) f=x.a+1+f.toNat:=by unfold A2e;rw[Zc,hpl,Zc]
   cases hraw:D2 (B3 x.w) with
   | true =>
    have e1:fieldC M (rn:Int) f s=3:=by unfold fieldC;rw[hR',Zc,hp,hkd,hraw];rfl
    rw[e1,if_neg (by decide)];have HRW:=Hz hraw;have HMM:=Hz (hH.mem.mem hI.ok);have HGM:=Hz hgM;have HHY:=Hz (⟨hk,hz,hx,hpl⟩:C7 (M.roots.getD rn 0)=0∧M.roots.getD rn 0≠0∧x∈D8 M∧C9 (M.roots.getD rn 0)=(x.a:Int));generalize M.roots.getD rn 0=u at *
    clear hH hI hE hR hR' e1 hgM hs hob hro hp hfd hrow hRa c7 q0 hcell hkd hsd hfP hraw m2 hk hz hpl hx
    go_enter Tryz.func50,Tryz.ntmps50
    go_upto_region 3 with (go_at_call 40;refine (B0x _ (HH.out.ext ((A0.refl w).alloc_ _)) HI.out.ok w.heap.size (rn:Int) s hr0 hs0 (by rw[World.cell?,heap_alloc_new];rfl) (by rw[World.cell?,heap_alloc_new];rfl)).mono ?_;rintro e w1 ⟨he,hq⟩;rw[HR.out] at he;subst he;have HX1:Hid (A0 w w1):=((A0.refl w).alloc_ _).trans_ hq;clear hq)
    have q1:=HX1.out.cell_ hQ0.out;have q2:=HX1.out.cell_ hC7.out;have q3:=HX1.out.cell_ hCE.out
    go_upto_region 5 with (first
     | (go_at_call 47;refine (B4a u hub.1 hub.2 _ (HMM.out.ext HX1.out) (HX1.out.cell_ hQ0.out) HGM.out HHY.out.1 HHY.out.2.1 x HHY.out.2.2.1 HHY.out.2.2.2).mono ?_;rintro e w3 ⟨he,hq⟩;(try unfold A1g at he);subst he;have HX3:Hid (A0 w w3):=HX1.out.trans_ hq;clear hq)
     | (go_at_call 89;refine (A3l _ _).mono ?_;rintro e w9 ⟨he,hw9⟩;rw[HRW.out] at he;subst he;have hw9:=hw9.symm;subst hw9))
    have k3:∀ o,(w3.alloc o).cell? ⟨3,0,none⟩=some (E0 (E 2)):=fun o=>(HE.out.ext (HX3.out.alloc_ o)).shape
    go_region;go_wp2
    go_ret2
    exact⟨rfl,by repeat (first|exact HX3.out|(refine A0.drew_ ?_)|(refine A0.alloc_ ?_ _))⟩
   | false =>
    have e0:fieldC M (rn:Int) f s=if 0≤f∧f<B5 x.w then 0 else 2:=by
     unfold fieldC;rw[hR',Zc,hp,hkd,hraw];simp only[Bool.not_false,Bool.and_self,if_true]
     split<;>split<;>first|rfl|(rename_i q1 q2;rw[hsd] at q1;exact absurd q1 q2)|(rename_i q1 q2;rw[hsd] at q1;exact absurd q2 q1)
    have HRW:=Hz hraw;have HMM:=Hz (hH.mem.mem hI.ok);have HGM:=Hz hgM;have HHY:=Hz (⟨hk,hz,hx,hpl⟩:C7 (M.roots.getD rn 0)=0∧M.roots.getD rn 0≠0∧x∈D8 M∧C9 (M.roots.getD rn 0)=(x.a:Int));rw[hfP];by_cases hf1:0≤f∧f<B5 x.w
    ·rw[e0,if_pos hf1,if_pos rfl];obtain⟨fn,rfl⟩:∃ fn:Nat,f=(fn:Int):=⟨f.toNat,by omega⟩;have hc0:¬(fn:Int)<0:=by omega
     have hc1:¬B5 x.w≤(fn:Int):=by omega
     have w1e:IntKind.i64.wrap ((x.a:Int)+1)=(x.a:Int)+1:=Zd _ (by omega);have w2e:IntKind.i64.wrap ((x.a:Int)+1+(fn:Int))=((x.a+1+fn:Nat):Int):=by rw[Zd _ (by omega)];omega
     rw[Zc];generalize M.roots.getD rn 0=u at *
     clear hH hI hE hR hR' e0 hgM hs hob hro hp hfd hrow hRa c7 q0 hcell hkd hsd hfP hraw m2 hk hz hpl hx hf1
     go_enter Tryz.func50,Tryz.ntmps50
     go_upto_region 3 with (go_at_call 40;refine (B0x _ (HH.out.ext ((A0.refl w).alloc_ _)) HI.out.ok w.heap.size (rn:Int) s hr0 hs0 (by rw[World.cell?,heap_alloc_new];rfl) (by rw[World.cell?,heap_alloc_new];rfl)).mono ?_;rintro e w1 ⟨he,hq⟩;rw[HR.out] at he;subst he;have HX1:Hid (A0 w w1):=((A0.refl w).alloc_ _).trans_ hq;clear hq)
     have q1:=HX1.out.cell_ hQ0.out;have q2:=HX1.out.cell_ hC7.out;have q3:=HX1.out.cell_ hCE.out
     go_wp2_with (first
      | (go_at_call 47;refine (B4a u hub.1 hub.2 _ (HMM.out.ext HX1.out) (HX1.out.cell_ hQ0.out) HGM.out HHY.out.1 HHY.out.2.1 x HHY.out.2.2.1 HHY.out.2.2.2).mono ?_;rintro e w3 ⟨he,hq⟩;(try unfold A1g at he);subst he;have HX3:Hid (A0 w w3):=HX1.out.trans_ hq;clear hq)
      | (go_at_call 89;refine (A3l _ _).mono ?_;rintro e w9 ⟨he,hw9⟩;rw[HRW.out] at he;subst he;have hw9:=hw9.symm;subst hw9))
     go_ret2
     exact⟨rfl,by repeat (first|exact HX3.out|(refine A0.drew_ ?_)|(refine A0.alloc_ ?_ _))⟩
    ·rw[e0,if_neg hf1,if_neg (by decide)];have hcs:f<0∨(¬f<0∧B5 x.w≤f):=by omega
     generalize M.roots.getD rn 0=u at *
     clear hH hI hE hR hR' e0 hgM hs hob hro hp hfd hrow hRa c7 q0 hcell hkd hsd hfP hraw m2 hk hz hpl hx hf1;rcases hcs with b1|⟨b1,b2⟩
     all_goals
      go_enter Tryz.func50,Tryz.ntmps50
      go_upto_region 3 with (go_at_call 40;refine (B0x _ (HH.out.ext ((A0.refl w).alloc_ _)) HI.out.ok w.heap.size (rn:Int) s hr0 hs0 (by rw[World.cell?,heap_alloc_new];rfl) (by rw[World.cell?,heap_alloc_new];rfl)).mono ?_;rintro e w1 ⟨he,hq⟩;rw[HR.out] at he;subst he;have HX1:Hid (A0 w w1):=((A0.refl w).alloc_ _).trans_ hq;clear hq)
      have q1:=HX1.out.cell_ hQ0.out;have q2:=HX1.out.cell_ hC7.out;have q3:=HX1.out.cell_ hCE.out
      go_upto_region 7 with (first
       | (go_at_call 47;refine (B4a u hub.1 hub.2 _ (HMM.out.ext HX1.out) (HX1.out.cell_ hQ0.out) HGM.out HHY.out.1 HHY.out.2.1 x HHY.out.2.2.1 HHY.out.2.2.2).mono ?_;rintro e w3 ⟨he,hq⟩;(try unfold A1g at he);subst he;have HX3:Hid (A0 w w3):=HX1.out.trans_ hq;clear hq)
       | (go_at_call 89;refine (A3l _ _).mono ?_;rintro e w9 ⟨he,hw9⟩;rw[HRW.out] at he;subst he;have hw9:=hw9.symm;subst hw9))
      have k3:∀ o,(w3.alloc o).cell? ⟨0,0,none⟩=some (E0 (E 1)):=fun o=>(HE.out.ext (HX3.out.alloc_ o)).bound
      go_region;go_wp2
      go_ret2
      exact⟨rfl,by repeat (first|exact HX3.out|(refine A0.drew_ ?_)|(refine A0.alloc_ ?_ _))⟩
theorem E1i (w:World) (hH:E7 w B hb b M S ten nx) (hI:D6 M nx) (hE:G4 E w) (r f s:Int) (hr0:-9223372036854775808≤r∧r≤9223372036854775807) (hs0:-9223372036854775808≤s∧s≤9223372036854775807) (hc:fieldC M r f s≠0) :
  Calls Zi 69 #[.pointer (some ⟨hb,0,none⟩),.int .i64 r,.int .i64 f,.int .i64 s] w (R8 w B hb b S ten M nx (F1 E (fieldC M r f s))):=by
 have HH:=Hz hH;have HI:=Hz hI;have HE:=Hz hE;obtain⟨ea,hv⟩:∃ ea,Hid (F1 E (fieldC M r f s)=E0 ea):=⟨_,B0k E _ hc⟩;rw[hv.out];have HC:=Hz hc;clear hH hI hE hc
 go_enter Tryz.func69,Tryz.ntmps69
 go_wp2_with (go_at_call 50;refine (B6k w HH.out HI.out HE.out r f s hr0 hs0).mono ?_;rintro e w1 ⟨he,hq⟩;rw[if_neg HC.out,hv.out] at he;subst he;have HX1:=Hz hq;clear hq)
 go_ret;exact⟨rfl,S,HH.out.ext HX1.out,D7.of_ext HX1.out⟩
theorem E9w (w:World) (hH:E7 w B hb b M S ten nx) (hI:D6 M nx) (hE:G4 E w) (r f s:Int) (hr0:-9223372036854775808≤r∧r≤9223372036854775807) (hs0:-9223372036854775808≤s∧s≤9223372036854775807) (hc:fieldC M r f s≠0) :
  Calls Zi 16 #[.pointer (some ⟨hb,0,none⟩),.int .i64 r,.int .i64 f,.int .i64 s] w (R8 w B hb b S ten M nx (F1 E (fieldC M r f s))):=by
 have HH:=Hz hH;have HI:=Hz hI;have HE:=Hz hE;obtain⟨ea,hv⟩:∃ ea,Hid (F1 E (fieldC M r f s)=E0 ea):=⟨_,B0k E _ hc⟩;rw[hv.out];have HC:=Hz hc;clear hH hI hE hc
 go_enter Tryz.func16,Tryz.ntmps16
 go_wp2_with (go_at_call 50;refine (B6k w HH.out HI.out HE.out r f s hr0 hs0).mono ?_;rintro e w1 ⟨he,hq⟩;rw[if_neg HC.out,hv.out] at he;subst he;have HX1:=Hz hq;clear hq)
 go_ret;exact⟨rfl,S,HH.out.ext HX1.out,D7.of_ext HX1.out⟩
theorem E1k (w:World) (hH:E7 w B hb b M S ten nx) (hI:D6 M nx) (hE:G4 E w) (r f s:Int) (hr0:-9223372036854775808≤r∧r≤9223372036854775807) (hs0:-9223372036854775808≤s∧s≤9223372036854775807) (hc:fieldC M r f s=0) :
  Calls Zi 69 #[.pointer (some ⟨hb,0,none⟩),.int .i64 r,.int .i64 f,.int .i64 s] w (R8 w B hb b S ten (Z1 M s.toNat (A6 M.W (A2e M r f))) nx (F1 E 0)):=by
 have HH:=Hz hH;have HI:=Hz hI;have HE:=Hz hE;have HF:=Hz hc;obtain⟨rn,sn,fn,x,h1,h2,h3,hrl,hsl,hx,hpl,hraw,hfn,hP⟩:=B6j (L8 hI.chk).1 hc;obtain⟨hs,-⟩:=K5 (L8 hI.chk).1;obtain⟨m1,-,-⟩:=A2z hs hx;have HPP:=Hz hP;obtain⟨p,hp⟩:∃ p,p=A2e M r f:=⟨_,rfl⟩;have hpl2:p<M.W.length:=by omega
 have HP:=Hz hp;have hrb:∀ k,k<M.roots.length→0≤M.roots.getD k 0∧M.roots.getD k 0≤18446744073709551615:=fun k hk=>Y1 (P:=fun x=>0≤x∧x≤18446744073709551615) hI.ok.roots hk
 have hrs:r.toNat=rn∧s.toNat=sn:=by omega
 have hsz:(s:Int)=(sn:Int):=h2;have hslz:(sn:Int)<(M.roots.length:Int):=by omega
 rw[hrs.2,←hp];have HSH:=Hz hs;clear hI hE hc h1 h3 hx hpl hraw hfn hP hp hs m1 hrs;subst hsz;have h0:F1 E 0=.nilIface:=rfl;rw[h0]
 go_enter Tryz.func69,Tryz.ntmps69
 go_upto_region 3 with (go_at_call 50;refine (B6k w HH.out HI.out HE.out r f (sn:Int) hr0 hs0).mono ?_;rintro e w1 ⟨he,hq⟩;rw[if_pos HF.out,HF.out,show F1 E 0=.nilIface from rfl,←HP.out] at he;subst he;have HX1:=Hz hq;clear hq)
 have hH1:=HH.out.ext HX1.out;have q0:=hH1.ptr;obtain⟨g,hg,-,-,hgf,-,-⟩:=Q3 (B7.fR hH1.mem) (by omega);have hfg:=hgf sn;have hM1:=hH1.mem.mem HI.out.ok;have c7:=hM1.roots;have c3:=hM1.W;simp only[Zh] at c7 c3;obtain⟨wb,wo,hWa,hcW⟩:=hM1.rW p _ (K2 M.W p hpl2);have hcell:w1.cell? ⟨wb,wo+p,none⟩=some (.int .u64 (A6 M.W p)):=hcW;have hrow:=hM1.rR;rw[hg] at hrow c7;rw[hWa] at c3;have hcel2:=hrow.at_ (K2 M.roots sn hsl);simp only[Zh] at hcel2;have hpz:(p:Int)<(M.W.length:Int):=by omega
 have HG:=Hz hg;have HSL:=Hz hsl;generalize M.roots.getD sn 0=yy at *
 generalize A6 M.W p=vv at *
 clear hH1 hgf hg hrow hM1 hWa hcW hrb;go_region;go_wp2;go_ret;obtain⟨z1,z2⟩:=(HH.out.ext (HX1.out.drew_)).step (B7.setR (HH.out.ext (HX1.out.drew_)).mem HG.out sn HSL.out vv) (A8.set_ (L:=G1 b S) (A8.refl _ _) (p:=⟨g,sn,none⟩) (Or.inl (Or.inr (Or.inr (Or.inl HG.out)))) _) (fun _ q=>Or.inl q);exact⟨rfl,S,z1,(D7.of_ext (HX1.out.drew_)).trans_ z2⟩
theorem E9z (w:World) (hH:E7 w B hb b M S ten nx) (hI:D6 M nx) (hE:G4 E w) (r f s:Int) (hr0:-9223372036854775808≤r∧r≤9223372036854775807) (hs0:-9223372036854775808≤s∧s≤9223372036854775807) (hc:fieldC M r f s=0) :
  Calls Zi 16 #[.pointer (some ⟨hb,0,none⟩),.int .i64 r,.int .i64 f,.int .i64 s] w (R8 w B hb b S ten (J3 M (A2e M r f) (M.roots.getD s.toNat 0)) nx (F1 E 0)):=by
 have HH:=Hz hH;have HI:=Hz hI;have HE:=Hz hE;have HF:=Hz hc;obtain⟨rn,sn,fn,x,h1,h2,h3,hrl,hsl,hx,hpl,hraw,hfn,hP⟩:=B6j (L8 hI.chk).1 hc;obtain⟨hs,-⟩:=K5 (L8 hI.chk).1;obtain⟨m1,-,-⟩:=A2z hs hx;have HPP:=Hz hP;obtain⟨p,hp⟩:∃ p,p=A2e M r f:=⟨_,rfl⟩;have hpl2:p<M.W.length:=by omega
 have HP:=Hz hp;have hrb:∀ k,k<M.roots.length→0≤M.roots.getD k 0∧M.roots.getD k 0≤18446744073709551615:=fun k hk=>Y1 (P:=fun x=>0≤x∧x≤18446744073709551615) hI.ok.roots hk
 have hrs:r.toNat=rn∧s.toNat=sn:=by omega
 have hsz:(s:Int)=(sn:Int):=h2;have hslz:(sn:Int)<(M.roots.length:Int):=by omega
 rw[hrs.2,←hp];have HSH:=Hz hs;clear hI hE hc h1 h3 hx hpl hraw hfn hP hp hs m1 hrs;subst hsz;have h0:F1 E 0=.nilIface:=rfl;rw[h0]
 go_enter Tryz.func16,Tryz.ntmps16
 go_upto_region 3 with (go_at_call 50;refine (B6k w HH.out HI.out HE.out r f (sn:Int) hr0 hs0).mono ?_;rintro e w1 ⟨he,hq⟩;rw[if_pos HF.out,HF.out,show F1 E 0=.nilIface from rfl,←HP.out] at he;subst he;have HX1:=Hz hq;clear hq)
 have hH1:=HH.out.ext HX1.out;have q0:=hH1.ptr;have hM1:=hH1.mem.mem HI.out.ok;have c7:=hM1.roots;simp only[Zh] at c7;obtain⟨rb,ro,hRa,hcell⟩:=hM1.rR sn _ (K2 M.roots sn hsl);rw[hRa] at c7;have hvv:=hrb sn hsl;have HRA:=Hz hRa;obtain⟨vv,hvE⟩:∃ vv,vv=M.roots.getD sn 0:=⟨_,rfl⟩;rw[←hvE] at hcell hvv ⊢;have HVV:=Hz hvE;clear hH1 hM1 hRa hrb hvE;refine wp_region_held_drew (S:=fun W=>W.cell? ⟨hb,0,none⟩=some (.pointer (some ⟨b,0,none⟩))∧W.cell? ⟨b,7,none⟩=some (.slice (some ⟨rb,ro,none⟩) M.roots.length S.R.2)∧W.cell? ⟨rb,ro+sn,none⟩=some (.int .u64 vv)) (by kernel_rfl) ?_ (fun hH=>?_)
 ·exact⟨q0,c7,hcell⟩
 refine tJ 0 21 rfl ?_
 try simp only[A5]
 refine tJ 1 22 rfl ?_
 try simp only[A5]
 refine tJ 2 23 rfl ?_
 try simp only[A5]
 refine tJ 3 24 rfl ?_
 try simp only[A5]
 refine tJ 4 25 rfl ?_
 try simp only[A5]
 refine tJ 5 26 rfl ?_
 try simp only[A5]
 refine tJ 6 27 rfl ?_
 try simp only[A5]
 refine tJ 7 28 rfl ?_
 try simp only[A5]
 refine tJ 8 29 rfl ?_
 try simp only[A5]
 refine tJ 9 30 rfl ?_
 try simp only[A5]
 refine tJ 10 31 rfl ?_
 try simp only[A5]
 refine tJ 11 32 rfl ?_
 try simp only[A5]
 refine tJ 12 33 rfl ?_
 try simp only[A5]
 refine tJ 13 34 rfl ?_
 try simp only[A5]
 refine tJ 14 35 rfl ?_
 try simp only[A5]
 refine wpAnyH_ready (rs:=[15]) (by kernel_rfl) (by simp) ?_;refine AllReadyH.cons (o:=⟨some 36,_,_,_,_,_⟩) rfl (fun K hK=>?_) AllReadyH.nil;go_simp;refine (C2y B b M S _ (OM.ext HH.out.mem (HX1.out.trans_ eX)) HI.out.ok HSH.out p hpl2 vv hvv.1 hvv.2).mono ?_;rintro e w5 ⟨rfl,hq1,hq2⟩;obtain⟨z1,z2⟩:=(HH.out.ext (HX1.out.trans_ (A0.refl w1).drew_)).step hq1 (hq2.sub fun k=>A5u.ownA) (fun _ q=>Or.inl q);have HZ1:=Hz z1;have HZ2:Hid (D7 hb b w S w5 S):=(D7.of_ext (HX1.out.trans_ (A0.refl w1).drew_)).trans_ z2;have y0:=z1.ptr;have y7:=(z1.mem.fld ⟨7,78,1,S.R.1,(J3 M p vv).roots.length,S.R.2,C5 (J3 M p vv).roots⟩ (by simp[F3])).1;have yR:=(R4 (B7.fR z1.mem)).1;rw[(B0y M p vv).2.2.2.2.2.2.1] at y7 yR;rw[HRA.out] at yR;simp only[I6.val,HRA.out] at y7;have yc:=yR.at_ (K2 M.roots sn hsl);clear z1 z2 hq1 hq2 yR;refine hK.out _ _ ?_ (fun hH=>?_)
 ·(try dsimp only);exact⟨y0,y7,by rw[HVV.out];exact yc⟩
 clear hK K
 try simp only[A5]
 refine wpAnyH_done (by kernel_rfl) ?_ _;clear hH;go_wp2;go_ret;have hz:=HZ1.out;rw[HVV.out] at hz;exact⟨rfl,S,hz,HZ2.out⟩
end
section
variable {w:World} {B b:Nat} {tI:TypeId} {M:A7} {S:C8}
theorem B7.own_of (h:B7 w B b tI M S) {f:I6} (hf:f∈F3 tI M S) {k:Nat} (hk:f.val.ownBlock=some k):G1 b S k:=by
 have ho':=(h.fld f hf).2.1;have ha:f.a=some ⟨k,0,none⟩:=by
  rcases ho'.2 with⟨h2,_⟩|⟨g,cap,cur,hv,_⟩
  ·rw[h2] at hk;cases hk
  ·rw[hv] at hk;simp[Value.ownBlock] at hk;subst hk;unfold I6.val at hv;injection hv
 simp only[F3,List.mem_cons,List.not_mem_nil,or_false] at hf;rcases hf with rfl|rfl|rfl|rfl|rfl<;>simp_all [G1]
end
theorem B8b (w:World) (e:TypeId) (a:Array Value):F7 (w.alloc (.cells a e)) (some ⟨w.heap.size,0,none⟩) a.toList:=fun j u hu=>by
 refine⟨_,_,rfl,?_⟩;rw[Zh,cell_of_row _ _ j a e (0,0) (heap_alloc_new w _)];simpa using hu
section
variable {B hb b:Nat} {M:A7} {S:C8} {E:Nat→Addr} {ten nx:Int}
theorem B7.apartRK {w:World} {tI:TypeId} (h:B7 w B b tI M S) {g:Nat} (hR:S.R.1=some ⟨g,0,none⟩):(Value.slice S.K.1 M.weak.length S.K.2).ownBlock≠some g:=by
 have:=h.apart;simp only[F3,List.pairwise_cons] at this;exact this.2.1 ⟨8,78,1,S.K.1,M.weak.length,S.K.2,C5 M.weak⟩ (by simp) g (by simp[I6.val,hR,Value.ownBlock])
theorem E7.pushWeak {W v2:World} (h:E7 W B hb b M S ten nx) (x:Int) (a2:Option Addr) (c2:Nat) (hg:W.grownBy v2 (Value.slice S.K.1 M.weak.length S.K.2).ownBlock)
  (ho:v2.ownsRow B 78 1 (.slice a2 (M.weak.length+1) c2) (M.weak.length+1) (C5 M.weak++[.int .u64 x])) (hat:(Value.slice a2 (M.weak.length+1) c2).ownBlock=(Value.slice S.K.1 M.weak.length S.K.2).ownBlock∨(Value.slice a2 (M.weak.length+1) c2).ownBlock=some W.heap.size) :
  E7 (v2.setCell ⟨b,8,none⟩ (.slice a2 (M.weak.length+1) c2)) B hb b {M with weak:=M.weak++[x]} {S with K:=(a2,c2)} ten nx∧D7 hb b W S (v2.setCell ⟨b,8,none⟩ (.slice a2 (M.weak.length+1) c2)) {S with K:=(a2,c2)} ∧
   A8 (G1 b S) W v2∧v2.cell? ⟨b,8,none⟩=some (.slice S.K.1 M.weak.length S.K.2)∧v2.frozen? ⟨b,8,none⟩=false:=by
 have hM:B7 (v2.setCell ⟨b,8,none⟩ (.slice a2 (M.weak.length+1) c2)) B b 140 {M with weak:=M.weak++[x]} {S with K:=(a2,c2)}:=by
  have:=OM.push (L1:=(F3 140 M S).take 2) (L2:=(F3 140 M S).drop 3) (f:=⟨8,78,1,S.K.1,M.weak.length,S.K.2,C5 M.weak⟩) h.mem a2 (M.weak.length+1) c2 _ hg ho hat
  unfold B7 F3;rw[show C5 (M.weak++[x])=C5 M.weak++[.int .u64 x] from by simp[C5],show (M.weak++[x]).length=M.weak.length+1 from by simp];exact this
 have hk1:A8 (G1 b S) W v2:=A8.of_grown hg fun k hk=>Or.inl (B7.own_of h.mem (f:=⟨8,78,1,S.K.1,M.weak.length,S.K.2,C5 M.weak⟩) (by simp[F3]) hk)
 have hne:∀ e,(Value.slice S.K.1 M.weak.length S.K.2).ownBlock=some e→e≠b:=fun e he q=>(h.mem.fld ⟨8,78,1,S.K.1,M.weak.length,S.K.2,C5 M.weak⟩ (by simp[F3])).2.2 (by rw[←q];exact he)
 have hbk:=hg.block b (OM.lt h.mem) (fun e=>hne _ e.symm rfl);obtain⟨z1,z2⟩:=h.step hM (hk1.set_ (Or.inl (Or.inl rfl)) _) (fun k hk=>by
  have new:a2=some ⟨k,0,none⟩→G1 b S k∨W.heap.size≤k:=fun q=>by
   rw[q] at hat
   rcases hat with e|e
   ·exact Or.inl (B7.own_of h.mem (f:=⟨8,78,1,S.K.1,M.weak.length,S.K.2,C5 M.weak⟩) (by simp[F3]) e.symm)
   ·right;have:k=W.heap.size:=by simpa [Value.ownBlock] using e
    omega
  rcases hk with q|q|q|q|q|q
  ·exact Or.inl (Or.inl q)
  ·exact Or.inl (Or.inr (Or.inl q))
  ·exact Or.inl (Or.inr (Or.inr (Or.inl q)))
  ·exact new q
  ·exact Or.inl (Or.inr (Or.inr (Or.inr (Or.inr (Or.inl q)))))
  ·exact Or.inl (Or.inr (Or.inr (Or.inr (Or.inr (Or.inr q))))))
 exact⟨z1,z2,hk1,by rw[Zj (w:=W) (a:=⟨b,8,none⟩) hbk];exact (h.mem.fld ⟨8,78,1,S.K.1,M.weak.length,S.K.2,C5 M.weak⟩ (by simp[F3])).1,by rw[Zk (w:=W) (a:=⟨b,8,none⟩) hbk];exact OM.frozen h.mem 8⟩
theorem E7.pushId {W v2:World} (h:E7 W B hb b M S ten nx) (x:Int × Int) (a2:Option Addr) (c2:Nat) (hg:W.grownBy v2 (Value.slice S.I.1 M.ids.length S.I.2).ownBlock)
  (ho:v2.ownsRow B 140 2 (.slice a2 (M.ids.length+1) c2) (M.ids.length+1) (G0 M.ids++[.int .u64 x.1,.int .i64 x.2])) (hat:(Value.slice a2 (M.ids.length+1) c2).ownBlock=(Value.slice S.I.1 M.ids.length S.I.2).ownBlock∨(Value.slice a2 (M.ids.length+1) c2).ownBlock=some W.heap.size) :
  E7 (v2.setCell ⟨b,9,none⟩ (.slice a2 (M.ids.length+1) c2)) B hb b {M with ids:=M.ids++[x]} {S with I:=(a2,c2)} ten nx∧D7 hb b W S (v2.setCell ⟨b,9,none⟩ (.slice a2 (M.ids.length+1) c2)) {S with I:=(a2,c2)} ∧
   A8 (G1 b S) W v2∧v2.cell? ⟨b,9,none⟩=some (.slice S.I.1 M.ids.length S.I.2)∧v2.frozen? ⟨b,9,none⟩=false:=by
 have hM:B7 (v2.setCell ⟨b,9,none⟩ (.slice a2 (M.ids.length+1) c2)) B b 140 {M with ids:=M.ids++[x]} {S with I:=(a2,c2)}:=by
  have:=OM.push (L1:=(F3 140 M S).take 3) (L2:=(F3 140 M S).drop 4) (f:=⟨9,140,2,S.I.1,M.ids.length,S.I.2,G0 M.ids⟩) h.mem a2 (M.ids.length+1) c2 _ hg ho hat
  unfold B7 F3;rw[show G0 (M.ids++[x])=G0 M.ids++[.int .u64 x.1,.int .i64 x.2] from by simp[G0],show (M.ids++[x]).length=M.ids.length+1 from by simp];exact this
 have hk1:A8 (G1 b S) W v2:=A8.of_grown hg fun k hk=>Or.inl (B7.own_of h.mem (f:=⟨9,140,2,S.I.1,M.ids.length,S.I.2,G0 M.ids⟩) (by simp[F3]) hk)
 have hne:∀ e,(Value.slice S.I.1 M.ids.length S.I.2).ownBlock=some e→e≠b:=fun e he q=>(h.mem.fld ⟨9,140,2,S.I.1,M.ids.length,S.I.2,G0 M.ids⟩ (by simp[F3])).2.2 (by rw[←q];exact he)
 have hbk:=hg.block b (OM.lt h.mem) (fun e=>hne _ e.symm rfl);obtain⟨z1,z2⟩:=h.step hM (hk1.set_ (Or.inl (Or.inl rfl)) _) (fun k hk=>by
  have new:a2=some ⟨k,0,none⟩→G1 b S k∨W.heap.size≤k:=fun q=>by
   rw[q] at hat
   rcases hat with e|e
   ·exact Or.inl (B7.own_of h.mem (f:=⟨9,140,2,S.I.1,M.ids.length,S.I.2,G0 M.ids⟩) (by simp[F3]) e.symm)
   ·right;have:k=W.heap.size:=by simpa [Value.ownBlock] using e
    omega
  rcases hk with q|q|q|q|q|q
  ·exact Or.inl (Or.inl q)
  ·exact Or.inl (Or.inr (Or.inl q))
  ·exact Or.inl (Or.inr (Or.inr (Or.inl q)))
  ·exact Or.inl (Or.inr (Or.inr (Or.inr (Or.inl q))))
  ·exact new q
  ·exact Or.inl (Or.inr (Or.inr (Or.inr (Or.inr (Or.inr q))))))
 exact⟨z1,z2,hk1,by rw[Zj (w:=W) (a:=⟨b,9,none⟩) hbk];exact (h.mem.fld ⟨9,140,2,S.I.1,M.ids.length,S.I.2,G0 M.ids⟩ (by simp[F3])).1,by rw[Zk (w:=W) (a:=⟨b,9,none⟩) hbk];exact OM.frozen h.mem 9⟩
def headC (M:A7) (r:Int):Int:=if rootB M r then (if A1k (M.roots.getD r.toNat 0) then 0 else 3) else 5
theorem B6q (hg:goodB M=true) {r:Int} (h:headC M r=0):∃ (rn:Nat) (x:Ob),r=(rn:Int)∧rn<M.roots.length∧A1k (M.roots.getD rn 0)=true∧C7 (M.roots.getD rn 0)=0∧M.roots.getD rn 0≠0∧x∈D8 M∧C9 (M.roots.getD rn 0)=(x.a:Int):=by
 unfold headC at h
 split at h
 ·rename_i h1;obtain⟨r0,r1⟩:=Y2.1 h1;obtain⟨rn,rfl⟩:∃ rn:Nat,r=(rn:Int):=⟨r.toNat,by omega⟩
  split at h
  ·rename_i h2;rw[Zc] at h2;obtain⟨hk,hz,x,hx,hpl⟩:=C2f hg (A4d (K5 hg).2.2.1 (by omega:rn<M.roots.length)) h2;exact⟨rn,x,rfl,by omega,h2,hk,hz,hx,hpl⟩
  ·cases h
 ·cases h
theorem F1f (w:World) (hH:E7 w B hb b M S ten nx) (hI:D6 M nx) (hE:G4 E w) (r:Int) (hr0:-9223372036854775808≤r∧r≤9223372036854775807) (hc:headC M r≠0) :
  Calls Zi 14 #[.pointer (some ⟨hb,0,none⟩),.int .i64 r] w (fun e w'=>e=.returned (.tuple #[.int .i64 0,F1 E (headC M r)])∧A0 w w'):=by
 have HH:=Hz hH;have HI:=Hz hI;have HE:=Hz hE
 cases hR:rootB M r with
 | false =>
  have e1:headC M r=5:=by unfold headC;rw[hR];rfl
  rw[e1];have HR:=Hz hR;clear hH hI hE hR e1 hc
  go_enter Tryz.func14,Tryz.ntmps14
  go_upto_region 2 with (go_at_call 40;refine (A2o _ (HH.out.ext ((A0.refl w).alloc_ _)) HI.out.ok w.heap.size r hr0.1 hr0.2 (by rw[World.cell?,heap_alloc_new];rfl)).mono ?_;rintro e w1 ⟨he,hq⟩;rw[HR.out] at he;subst he;have HX1:Hid (A0 w w1):=((A0.refl w).alloc_ _).trans_ hq;clear hq)
  have k3:=(HE.out.ext HX1.out).place;go_region;go_wp2
  go_ret2
  exact⟨rfl,HX1.out.drew_⟩
 | true =>
  obtain⟨r0,r1⟩:=Y2.1 hR;obtain⟨rn,rfl⟩:∃ rn:Nat,r=(rn:Int):=⟨r.toNat,by omega⟩;have hrl:rn<M.roots.length:=by omega
  have HR:=Hz hR;have hp:A1k (M.roots.getD rn 0)=false:=by
   cases q:A1k (M.roots.getD rn 0) with
   | false=>rfl
   | true=>exact absurd (by unfold headC;rw[hR,Zc,q];rfl) hc
  have e1:headC M (rn:Int)=3:=by unfold headC;rw[hR,Zc,hp];rfl
  rw[e1];have hub:0≤M.roots.getD rn 0∧M.roots.getD rn 0≤18446744073709551615:=Y1 (P:=fun x=>0≤x∧x≤18446744073709551615) hI.ok.roots hrl;obtain⟨rb,ro,hRa,hcell⟩:=(hH.mem.mem hI.ok).rR rn _ (K2 M.roots rn hrl);have c7:=(hH.mem.mem hI.ok).roots;simp only[Zh] at c7;rw[hRa] at c7;have hltz:(rn:Int)<(M.roots.length:Int):=by omega
  have hC7:=Hz c7;have hQ0:=Hz hH.ptr;have hCE:=Hz hcell;have HPT:=Hz hp;generalize M.roots.getD rn 0=u at *
  clear hH hI hE hR e1 hc hp hRa hcell c7
  go_enter Tryz.func14,Tryz.ntmps14
  go_upto_region 3 with (go_at_call 40;refine (A2o _ (HH.out.ext ((A0.refl w).alloc_ _)) HI.out.ok w.heap.size (rn:Int) hr0.1 hr0.2 (by rw[World.cell?,heap_alloc_new];rfl)).mono ?_;rintro e w1 ⟨he,hq⟩;rw[HR.out] at he;subst he;have HX1:Hid (A0 w w1):=((A0.refl w).alloc_ _).trans_ hq;clear hq)
  have q1:=HX1.out.cell_ hQ0.out;have q2:=HX1.out.cell_ hC7.out;have q3:=HX1.out.cell_ hCE.out
  go_upto_region 5 with (go_at_call 47;refine (C0q _ u hub.1 hub.2 _ HPT.out).mono ?_;rintro e w3 ⟨he,hq⟩;(try unfold A1g at he);subst he;have HX3:Hid (A0 w w3):=HX1.out.trans_ hq;clear hq)
  have k3:∀ o,(w3.alloc o).cell? ⟨3,0,none⟩=some (E0 (E 2)):=fun o=>(HE.out.ext (HX3.out.alloc_ o)).shape
  go_region;go_wp2
  go_ret2
  exact⟨rfl,by repeat (first|exact HX3.out|(refine A0.drew_ ?_)|(refine A0.alloc_ ?_ _))⟩
theorem F8p (w:World) (hH:E7 w B hb b M S ten nx) (hI:D6 M nx) (hE:G4 E w) (r:Int) (hr0:-9223372036854775808≤r∧r≤9223372036854775807) (hc:headC M r≠0) :
  Calls Zi 70 #[.pointer (some ⟨hb,0,none⟩),.int .i64 r] w (fun e w'=>e=.returned (.tuple #[.int .i64 0,F1 E (headC M r)])∧A0 w w'):=by
 have HH:=Hz hH;have HI:=Hz hI;have HE:=Hz hE
 cases hR:rootB M r with
 | false =>
  have e1:headC M r=5:=by unfold headC;rw[hR];rfl
  rw[e1];have HR:=Hz hR;clear hH hI hE hR e1 hc
  go_enter Tryz.func70,Tryz.ntmps70
  go_upto_region 2 with (go_at_call 40;refine (A2o _ (HH.out.ext ((A0.refl w).alloc_ _)) HI.out.ok w.heap.size r hr0.1 hr0.2 (by rw[World.cell?,heap_alloc_new];rfl)).mono ?_;rintro e w1 ⟨he,hq⟩;rw[HR.out] at he;subst he;have HX1:Hid (A0 w w1):=((A0.refl w).alloc_ _).trans_ hq;clear hq)
  have k3:=(HE.out.ext HX1.out).place;go_region;go_wp2
  go_ret2
  exact⟨rfl,HX1.out.drew_⟩
 | true =>
  obtain⟨r0,r1⟩:=Y2.1 hR;obtain⟨rn,rfl⟩:∃ rn:Nat,r=(rn:Int):=⟨r.toNat,by omega⟩;have hrl:rn<M.roots.length:=by omega
  have HR:=Hz hR;have hp:A1k (M.roots.getD rn 0)=false:=by
   cases q:A1k (M.roots.getD rn 0) with
   | false=>rfl
   | true=>exact absurd (by unfold headC;rw[hR,Zc,q];rfl) hc
  have e1:headC M (rn:Int)=3:=by unfold headC;rw[hR,Zc,hp];rfl
  rw[e1];have hub:0≤M.roots.getD rn 0∧M.roots.getD rn 0≤18446744073709551615:=Y1 (P:=fun x=>0≤x∧x≤18446744073709551615) hI.ok.roots hrl;obtain⟨rb,ro,hRa,hcell⟩:=(hH.mem.mem hI.ok).rR rn _ (K2 M.roots rn hrl);have c7:=(hH.mem.mem hI.ok).roots;simp only[Zh] at c7;rw[hRa] at c7;have hltz:(rn:Int)<(M.roots.length:Int):=by omega
  have hC7:=Hz c7;have hQ0:=Hz hH.ptr;have hCE:=Hz hcell;have HPT:=Hz hp;generalize M.roots.getD rn 0=u at *
  clear hH hI hE hR e1 hc hp hRa hcell c7
  go_enter Tryz.func70,Tryz.ntmps70
  go_upto_region 3 with (go_at_call 40;refine (A2o _ (HH.out.ext ((A0.refl w).alloc_ _)) HI.out.ok w.heap.size (rn:Int) hr0.1 hr0.2 (by rw[World.cell?,heap_alloc_new];rfl)).mono ?_;rintro e w1 ⟨he,hq⟩;rw[HR.out] at he;subst he;have HX1:Hid (A0 w w1):=((A0.refl w).alloc_ _).trans_ hq;clear hq)
  have q1:=HX1.out.cell_ hQ0.out;have q2:=HX1.out.cell_ hC7.out;have q3:=HX1.out.cell_ hCE.out
  go_upto_region 5 with (go_at_call 47;refine (C0q _ u hub.1 hub.2 _ HPT.out).mono ?_;rintro e w3 ⟨he,hq⟩;(try unfold A1g at he);subst he;have HX3:Hid (A0 w w3):=HX1.out.trans_ hq;clear hq)
  have k3:∀ o,(w3.alloc o).cell? ⟨3,0,none⟩=some (E0 (E 2)):=fun o=>(HE.out.ext (HX3.out.alloc_ o)).shape
  go_region;go_wp2
  go_ret2
  exact⟨rfl,by repeat (first|exact HX3.out|(refine A0.drew_ ?_)|(refine A0.alloc_ ?_ _))⟩
theorem F8r (w:World) (hH:E7 w B hb b M S ten nx) (hI:D6 M nx) (hE:G4 E w) (r:Int) (hr0:-9223372036854775808≤r∧r≤9223372036854775807) (hc:headC M r=0) (hfu:M.weak.length<5000) :
  Calls Zi 70 #[.pointer (some ⟨hb,0,none⟩),.int .i64 r] w (R8 w B hb b S ten {M with weak:=M.weak++[M.roots.getD r.toNat 0]} nx (.tuple #[.int .i64 (M.weak.length:Int),F1 E 0])):=by
 have HH:=Hz hH;have HI:=Hz hI;have HE:=Hz hE;have hgM:=(L8 hI.chk).1;obtain⟨rn,x,rfl,hrl,hpt,hk,hz,hx,hpl⟩:=B6q hgM hc;have hR:rootB M (rn:Int)=true:=Y2.2 (by omega);have HR:=Hz hR;have hub:0≤M.roots.getD rn 0∧M.roots.getD rn 0≤18446744073709551615:=Y1 (P:=fun x=>0≤x∧x≤18446744073709551615) hI.ok.roots hrl;obtain⟨rb,ro,hRa,hcell⟩:=(hH.mem.mem hI.ok).rR rn _ (K2 M.roots rn hrl);have c7:=(hH.mem.mem hI.ok).roots;simp only[Zh] at c7;rw[hRa] at c7;have hltz:(rn:Int)<(M.roots.length:Int):=by omega
 have hC7:=Hz c7;have hQ0:=Hz hH.ptr;have hCE:=Hz hcell;have HMM:=Hz (hH.mem.mem hI.ok);have HGM:=Hz hgM;have HHY:=Hz (⟨hk,hz,hx,hpl⟩:C7 (M.roots.getD rn 0)=0∧M.roots.getD rn 0≠0∧x∈D8 M∧C9 (M.roots.getD rn 0)=(x.a:Int));have HFB:=Hz (A4d (K5 hgM).2.2.1 hrl);rw[Zc];have c8:=(hH.mem.mem hI.ok).weak;simp only[Zh] at c8;have hlw:((M.weak.length:Int)==5000)=false:=by simp;omega
 have hlw2:¬(M.weak.length:Int)=5000:=by omega
 have hC8:=Hz c8;obtain⟨i0,hi0,hz0,hz1,hz2⟩:=info_parts C0w;obtain⟨g,hg,-,-,-,-,-⟩:=Q3 (B7.fR hH.mem) (by omega);have hg2:=hRa;rw[hg] at hg2;injection hg2 with hg2;injection hg2 with hg3 hg4;subst hg3 hg4;have HG:=Hz hg;have h0:F1 E 0=.nilIface:=rfl;rw[h0];obtain⟨u,hu⟩:∃ u,u=M.roots.getD rn 0:=⟨_,rfl⟩;rw[←hu] at HHY hCE hub HFB ⊢;have HU:=Hz hu;clear hH hI hE hR hc hk hz hx hpl hRa hcell c7 c8 hpt hgM hg hu
 go_enter Tryz.func70,Tryz.ntmps70
 go_upto_region 3 with (go_at_call 40;refine (A2o _ (HH.out.ext ((A0.refl w).alloc_ _)) HI.out.ok w.heap.size (rn:Int) hr0.1 hr0.2 (by rw[World.cell?,heap_alloc_new];rfl)).mono ?_;rintro e w1 ⟨he,hq⟩;rw[HR.out] at he;subst he;have HX1:Hid (A0 w w1):=((A0.refl w).alloc_ _).trans_ hq;clear hq)
 have q1:=HX1.out.cell_ hQ0.out;have q2:=HX1.out.cell_ hC7.out;have q3:=HX1.out.cell_ hCE.out;simp only[Zh] at q3
 go_upto_region 6 with (go_at_call 47;refine (B4a u hub.1 hub.2 _ (HMM.out.ext HX1.out) (HX1.out.cell_ hQ0.out) HGM.out HHY.out.1 HHY.out.2.1 x HHY.out.2.2.1 HHY.out.2.2.2).mono ?_;rintro e w3 ⟨he,hq⟩;(try unfold A1g at he);subst he;have HX3:Hid (A0 w w3):=HX1.out.trans_ hq;clear hq)
 have j1':=fun o=>(HX3.out.alloc_ o).cell_ hQ0.out
 have j2':=fun o=>(HX3.out.alloc_ o).cell_ hC8.out
 go_upto_region 8 with fail
 refine P4 (fun wD hwD=>?_);have HXD:Hid (A0 w wD):=by rw[hwD];exact HX3.out.alloc_ _
 have j1:=HXD.out.cell_ hQ0.out;have j2:=HXD.out.cell_ hC8.out;have j3:=HXD.out.cell_ hC7.out;have j4:=HXD.out.cell_ hCE.out;simp only[Zh] at j4;have HHD:=Hz (HH.out.ext HXD.out);have HSD:Hid (D7 hb b w S wD S):=D7.of_ext HXD.out;have j2a:=fun o=>(A0.alloc_ (A0.refl wD) o).cell_ j2
 clear hwD j1' j2';refine wp_region_held_drew (S:=fun W=>W.cell? ⟨hb,0,none⟩=some (.pointer (some ⟨b,0,none⟩))∧W.cell? ⟨b,7,none⟩=some (.slice (some ⟨g,0,none⟩) M.roots.length S.R.2)∧W.cell? ⟨g,rn,none⟩=some (.int .u64 u)) (by kernel_rfl) ?_ (fun hH=>?_)
 ·exact⟨j1,j3,j4⟩
 refine tJ 0 44 rfl ?_
 try simp only[A5]
 refine tJ 1 45 rfl ?_
 try simp only[A5]
 refine tJ 2 46 rfl ?_
 try simp only[A5]
 refine tJ 3 47 rfl ?_
 try simp only[A5]
 refine tJ 4 48 rfl ?_
 try simp only[A5]
 refine tJ 5 49 rfl ?_
 try simp only[A5]
 refine tJ 6 50 rfl ?_
 try simp only[A5]
 refine tJ 7 51 rfl ?_
 try simp only[A5]
 refine tJ 8 52 rfl ?_
 try simp only[A5]
 refine tJ 9 53 rfl ?_
 try simp only[A5]
 refine tJ 11 55 rfl ?_
 try simp only[A5]
 refine tJ 12 56 rfl ?_
 try simp only[A5]
 refine tJ 13 57 rfl ?_
 try simp only[A5]
 refine tJ 14 58 rfl ?_
 try simp only[A5]
 refine tJ 15 59 rfl ?_
 try simp only[A5]
 refine tJ 16 60 rfl ?_
 try simp only[A5]
 refine tJ 17 61 rfl ?_
 try simp only[A5]
 refine tJ 18 62 rfl ?_
 try simp only[A5]
 refine tJ 19 63 rfl ?_
 try simp only[A5]
 refine tJ 20 64 rfl ?_
 try simp only[A5]
 refine wpAnyH_ready (rs:=[10,21]) (by kernel_rfl) (by simp) ?_;refine AllReadyH.cons (o:=⟨some 54,_,_,_,_,_⟩) rfl (fun K hK=>?_) (AllReadyH.cons (o:=⟨some 65,_,_,_,_,_⟩) rfl (fun K hK=>?_) AllReadyH.nil)
 ·skip;go_simp;refine hK.out _ _ ?_ (fun hH=>?_)
  ·(try dsimp only);exact⟨A0.cell_ (w:=wD) eX j1,A0.cell_ (w:=wD) eX j3,A0.cell_ (w:=wD) eX j4⟩
  clear hK K
  try simp only[A5]
  refine wpAnyH_ready (rs:=[21]) (by kernel_rfl) (by simp) ?_;refine AllReadyH.cons (o:=⟨some 65,_,_,_,_,_⟩) rfl (fun K hK=>?_) AllReadyH.nil;go_simp;skip;refine hK.out _ _ ?_ (fun hH=>?_)
  ·(try dsimp only);exact⟨A0.cell_ (w:=wD) eX j1,A0.cell_ (w:=wD) eX j3,A0.cell_ (w:=wD) eX j4⟩
  clear hK K
  try simp only[A5]
  refine wpAnyH_ready (rs:=[22]) (by kernel_rfl) (by simp) ?_;refine AllReadyH.cons (o:=⟨some 66,_,_,_,_,_⟩) rfl (fun K hK=>?_) AllReadyH.nil;have hHD:=HHD.out.ext (A0.alloc_ (A0.drew_ (A0.refl wD)) (.cells #[.int .u64 u] 78));refine A5b (by rfl) _ _ 76 (by rfl) B 78 i0 (.int .u64 0) 1 8 B2r hi0 hz0 hz1 hz2 (by rfl) (by decide) (.slice S.K.1 M.weak.length S.K.2) M.weak.length (C5 M.weak) (by rfl) (hHD.mem.fld ⟨8,78,1,S.K.1,M.weak.length,S.K.2,C5 M.weak⟩ (by simp[F3])).2.1 (some ⟨wD.heap.size,0,none⟩) 1 1 [.int .u64 u] (by rfl) (fun e=>by cases e) (Nat.le_refl _) (by rfl) (B8b wD.drew _ _) (by intro q hq;rw[Zg.1 hq];rfl) (by unfold maxLen;omega) (by omega) hHD.hbs ?_;intro a2 c2 v2 hown hgrow hat
  obtain⟨z1,z2,z3,y8,yf⟩:=hHD.pushWeak u a2 c2 hgrow hown hat
  have HZ1:=Hz z1;have HZ2:Hid (D7 hb b w S _ _):=(HSD.out.trans_ (D7.of_ext (A0.alloc_ (A0.drew_ (A0.refl wD)) (.cells #[.int .u64 u] 78)))).trans_ z2;have y0:=z3.cell (p:=⟨hb,0,none⟩) hHD.ne hHD.ptr;have y7:v2.cell? ⟨b,7,none⟩=some (.slice (some ⟨g,0,none⟩) M.roots.length S.R.2):=by rw[Zj (a:=⟨b,7,none⟩) (hgrow.block b (OM.lt hHD.mem) (fun e=>(hHD.mem.fld ⟨8,78,1,S.K.1,M.weak.length,S.K.2,C5 M.weak⟩ (by simp[F3])).2.2 e.symm))];exact A0.cell_ (w:=wD) eX j3
  have yc:v2.cell? ⟨g,rn,none⟩=some (.int .u64 u):=by rw[Zj (a:=⟨g,rn,none⟩) (hgrow.block g (Nat.lt_of_lt_of_le (B9 j4) (by simp)) (fun e=>B7.apartRK hHD.mem HG.out e.symm))];exact A0.cell_ (w:=wD) eX j4
  have x7:=(z1.mem.fld ⟨7,78,1,S.R.1,M.roots.length,S.R.2,C5 M.roots⟩ (by simp[F3])).1;have xR:=(R4 (B7.fR z1.mem)).1;simp only at xR;rw[HG.out] at xR;simp only[I6.val,HG.out] at x7;have xc:=xR.at_ (K2 M.roots rn hrl);rw[←HU.out,Zh] at xc;have x0:=z1.ptr;clear hown hgrow hat z1 z2 z3 hHD xR;refine hK.out _ _ ?_ (fun hH=>?_)
  ·(try dsimp only);exact⟨y0,y7,yc⟩
  clear hK K
  try simp only[A5]
  refine tJ 23 67 rfl ?_
  try simp only[A5]
  refine tJ 24 68 rfl ?_
  try simp only[A5]
  refine wpAnyH_ready (rs:=[25]) (by kernel_rfl) (by simp) ?_;refine AllReadyH.cons (o:=⟨none,_,_,_,_,_⟩) rfl (fun K hK=>?_) AllReadyH.nil;go_simp;skip;refine hK.out _ _ ?_ (fun hH=>?_)
  ·(try dsimp only);exact⟨x0,x7,xc⟩
  clear hK K
  try simp only[A5]
  refine wpAnyH_done (by kernel_rfl) ?_ _;clear hH y0 y7 y8 yc yf;have x8:=(HZ1.out.mem.fld ⟨8,78,1,a2,(M.weak++[u]).length,c2,C5 (M.weak++[u])⟩ (by simp[F3])).1;simp only[I6.val,List.length_append,Zf] at x8;have xw:IntKind.i64.wrap (((M.weak.length+1:Nat):Int)-1)=(M.weak.length:Int):=by rw[Zd _ (by omega)];omega
  have xw2:IntKind.i64.wrap ((M.weak.length:Int)+1-1)=(M.weak.length:Int):=by rw[Zd _ (by omega)];omega
  generalize v2.setCell ⟨b,8,none⟩ (Value.slice a2 (M.weak.length+1) c2)=wE at *
  clear x7 xc;go_wp2
  go_ret2
  exact⟨rfl,_,HZ1.out,HZ2.out⟩
 ·skip;go_simp;refine hK.out _ _ ?_ (fun hH=>?_)
  ·(try dsimp only);exact⟨A0.cell_ (w:=wD) eX j1,A0.cell_ (w:=wD) eX j3,A0.cell_ (w:=wD) eX j4⟩
  clear hK K
  try simp only[A5]
  refine wpAnyH_ready (rs:=[10]) (by kernel_rfl) (by simp) ?_;refine AllReadyH.cons (o:=⟨some 54,_,_,_,_,_⟩) rfl (fun K hK=>?_) AllReadyH.nil;go_simp;skip;refine hK.out _ _ ?_ (fun hH=>?_)
  ·(try dsimp only);exact⟨A0.cell_ (w:=wD) eX j1,A0.cell_ (w:=wD) eX j3,A0.cell_ (w:=wD) eX j4⟩
  clear hK K
  try simp only[A5]
  refine wpAnyH_ready (rs:=[22]) (by kernel_rfl) (by simp) ?_;refine AllReadyH.cons (o:=⟨some 66,_,_,_,_,_⟩) rfl (fun K hK=>?_) AllReadyH.nil;have hHD:=HHD.out.ext (A0.alloc_ (A0.drew_ (A0.refl wD)) (.cells #[.int .u64 u] 78));refine A5b (by rfl) _ _ 76 (by rfl) B 78 i0 (.int .u64 0) 1 8 B2r hi0 hz0 hz1 hz2 (by rfl) (by decide) (.slice S.K.1 M.weak.length S.K.2) M.weak.length (C5 M.weak) (by rfl) (hHD.mem.fld ⟨8,78,1,S.K.1,M.weak.length,S.K.2,C5 M.weak⟩ (by simp[F3])).2.1 (some ⟨wD.heap.size,0,none⟩) 1 1 [.int .u64 u] (by rfl) (fun e=>by cases e) (Nat.le_refl _) (by rfl) (B8b wD.drew _ _) (by intro q hq;rw[Zg.1 hq];rfl) (by unfold maxLen;omega) (by omega) hHD.hbs ?_;intro a2 c2 v2 hown hgrow hat
  obtain⟨z1,z2,z3,y8,yf⟩:=hHD.pushWeak u a2 c2 hgrow hown hat
  have HZ1:=Hz z1;have HZ2:Hid (D7 hb b w S _ _):=(HSD.out.trans_ (D7.of_ext (A0.alloc_ (A0.drew_ (A0.refl wD)) (.cells #[.int .u64 u] 78)))).trans_ z2;have y0:=z3.cell (p:=⟨hb,0,none⟩) hHD.ne hHD.ptr;have y7:v2.cell? ⟨b,7,none⟩=some (.slice (some ⟨g,0,none⟩) M.roots.length S.R.2):=by rw[Zj (a:=⟨b,7,none⟩) (hgrow.block b (OM.lt hHD.mem) (fun e=>(hHD.mem.fld ⟨8,78,1,S.K.1,M.weak.length,S.K.2,C5 M.weak⟩ (by simp[F3])).2.2 e.symm))];exact A0.cell_ (w:=wD) eX j3
  have yc:v2.cell? ⟨g,rn,none⟩=some (.int .u64 u):=by rw[Zj (a:=⟨g,rn,none⟩) (hgrow.block g (Nat.lt_of_lt_of_le (B9 j4) (by simp)) (fun e=>B7.apartRK hHD.mem HG.out e.symm))];exact A0.cell_ (w:=wD) eX j4
  have x7:=(z1.mem.fld ⟨7,78,1,S.R.1,M.roots.length,S.R.2,C5 M.roots⟩ (by simp[F3])).1;have xR:=(R4 (B7.fR z1.mem)).1;simp only at xR;rw[HG.out] at xR;simp only[I6.val,HG.out] at x7;have xc:=xR.at_ (K2 M.roots rn hrl);rw[←HU.out,Zh] at xc;have x0:=z1.ptr;clear hown hgrow hat z1 z2 z3 hHD xR;refine hK.out _ _ ?_ (fun hH=>?_)
  ·(try dsimp only);exact⟨y0,y7,yc⟩
  clear hK K
  try simp only[A5]
  refine tJ 23 67 rfl ?_
  try simp only[A5]
  refine tJ 24 68 rfl ?_
  try simp only[A5]
  refine wpAnyH_ready (rs:=[25]) (by kernel_rfl) (by simp) ?_;refine AllReadyH.cons (o:=⟨none,_,_,_,_,_⟩) rfl (fun K hK=>?_) AllReadyH.nil;go_simp;skip;refine hK.out _ _ ?_ (fun hH=>?_)
  ·(try dsimp only);exact⟨x0,x7,xc⟩
  clear hK K
  try simp only[A5]
  refine wpAnyH_done (by kernel_rfl) ?_ _;clear hH y0 y7 y8 yc yf;have x8:=(HZ1.out.mem.fld ⟨8,78,1,a2,(M.weak++[u]).length,c2,C5 (M.weak++[u])⟩ (by simp[F3])).1;simp only[I6.val,List.length_append,Zf] at x8;have xw:IntKind.i64.wrap (((M.weak.length+1:Nat):Int)-1)=(M.weak.length:Int):=by rw[Zd _ (by omega)];omega
  have xw2:IntKind.i64.wrap ((M.weak.length:Int)+1-1)=(M.weak.length:Int):=by rw[Zd _ (by omega)];omega
  generalize v2.setCell ⟨b,8,none⟩ (Value.slice a2 (M.weak.length+1) c2)=wE at *
  clear x7 xc;go_wp2
  go_ret2
  exact⟨rfl,_,HZ1.out,HZ2.out⟩
end
end Go.Proofs.YtelhoppfidibiaaGreatDoor
