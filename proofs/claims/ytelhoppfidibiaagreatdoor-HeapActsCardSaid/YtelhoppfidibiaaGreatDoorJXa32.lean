/- The text of a heap, plainly: boxes and texts, too. -/
import Derived.Test.YtelhoppfidibiaaGreatDoorJXa31
import Derived.Lib.SlBytesRow
import Derived.Test.YtelhoppfidibiaaGreatDoorJXa28
set_option linter.unusedSimpArgs false
set_option linter.unusedVariables false
set_option maxHeartbeats 16000000
set_option maxRecDepth 100000
namespace Go.Proofs.YtelhoppfidibiaaGreatDoor
open Go.RowKit
open IntWalk renaming i64_in→Za
open List renaming getD_eq_getElem?_getD→Zb,getElem?_eq_getElem→Zc,getElem?_take→Zd
open Nat renaming le_refl→Ze,zero_add→Zf
open Go.Proofs.Tryz renaming prog→Zg
def A2c (W:List Int) (a m:Nat):List Int:=(List.range m).map fun j=>A6 W (a+2+j)
def V0 (W:List Int) (a:Nat):ByteArray:=strOfNums (A0j (A2c W a (((A6 W (a+1)).toNat+7)/8)) (A6 W (a+1)).toNat (A6 W (a+1)).toNat)
def Z5 (W:List Int) (a:Nat):Int:=wrap64 (A6 W (a+1))
def Q9 (W:List Int) (l:List Ob) (x:Ob) (out:ByteArray):ByteArray :=
 if B3 x.w=1 then (out++⟨#[32]⟩)++P8 (Z5 W x.a) else if B3 x.w=2 then (out++⟨#[32]⟩)++A5n (V0 W x.a) else A1f l (B3 x.w) (K8 W x) out
def V6 (W:List Int) (l:List Ob):Nat→List Ob→ByteArray→ByteArray
 | _,[],out=>out
 | i,x::xs,out=>V6 W l (i+1) xs (Q9 W l x (A0f i (B3 x.w) out)++⟨#[10]⟩)
def A7f (M:A7):ByteArray:=V6 M.W (F5 M) 0 (F5 M) (A1l (F5 M) M.roots ⟨#[]⟩)
theorem B7f (W:List Int) (a:Nat):-9223372036854775808≤Z5 W a∧Z5 W a≤9223372036854775807:=by unfold Z5 wrap64;omega
structure A2s (W:List Int) (x:Ob):Prop where
 kind:B3 x.w=1∨B3 x.w=2∨8≤B3 x.w
 one:B3 x.w=1→x.n=1
 two:B3 x.w=2→0≤A6 W (x.a+1)∧A6 W (x.a+1)≤2000∧x.n=1+((A6 W (x.a+1)).toNat+7)/8
theorem B8k (W:List Int) (a:Nat):(V0 W a).size=(A6 W (a+1)).toNat:=by
 unfold V0;rw[strOfNums_size];unfold A0j;simp
theorem C7b:(Zg.info? 5).map (fun i=>(i.zero,i.size,i.bytes))=some (some (.int .u8 0),1,1):=by kernel_rfl
theorem D3b:Zg.underlying 107=some (.slice 5):=by kernel_rfl
theorem F7j (b off m c:Nat) (ws:List Int) (n:Nat) (hm:m≤35184372088832) (hn:n≤8*m) (hw:∀ x∈ws,0≤x∧x≤18446744073709551615) (w:World) (hb:b<w.heap.size)
  (hc:∀ j,j<m→w.cell? ⟨b,off+j,none⟩=some (.int .u64 (ws.getD j 0))) :
  Calls Zg 118 #[.slice (some ⟨b,off,none⟩) m c,.int .i64 n] w fun e w'=>e=.returned (.tuple #[.string (strOfNums (A0j ws n n)),.nilIface])∧A0 w w':=by
 obtain⟨i0,hi,hz0,hz1,hz2⟩:=info_parts C7b
 go_enter Tryz.func118,Tryz.ntmps118
 go_wp2_with (first
  | (refine wpList_make_full _ rfl _ _ 107 rfl w.heap.size 5 i0 (.int .u8 0) 1 D3b hi hz0 hz1 .i64 .i64 (n:Int) (n:Int) n rfl rfl (by omega) (by omega) (by rw[hz2];omega) (by unfold maxLen;omega) (Ze _) ?_;intro w1 hown hgrow;have hbel0:Below w.heap.size w w1:=(Below.refl _ _).grown hgrow (Ze _) (by simp);clear hgrow))
 go_loopw [7,22] (fun t i wr=>∃ k:Nat,k≤n∧i=.int .i64 k∧wr.ownsRow w.heap.size 5 1 (.slice (some ⟨w.heap.size,0,none⟩) n n) n ((A0j ws k n).map (Value.int .u8))∧Below w.heap.size w wr)
  (fun _ i _=>n-(intOf i).toNat)
 case atStart =>
  refine⟨0,Nat.zero_le _,rfl,?_,hbel0⟩;rw[F7d];rw[show (Value.int .u8 0).cells=#[Value.int .u8 0] from rfl,Nat.mul_one,toList_madeCells_one] at hown;simpa using hown
 case round =>
  clear hown;obtain⟨k,hk,rfl,hrow,hbel⟩:=hrel;have hsz:=hbel.size;have hcell:k<n→wr.cell? ⟨b,off+k/8,none⟩=some (.int .u64 (ws.getD (k/8) 0)):=fun h=>by
   rw[hbel.cell hb];exact hc _ (by omega)
  have hlt8:k<n→k/8<m:=by omega
  have hfr:wr.frozen? ⟨w.heap.size,k,none⟩=false:=hrow.frozenAt _;have hold:k<n→wr.cell? ⟨w.heap.size,k,none⟩=some (.int .u8 0):=fun h=>by
   rw[hrow.cellAt k (by omega)];simp[A0j,h]
  have hconv:Hid (k=n→(convert 107 9 (.slice (some ⟨w.heap.size,0,none⟩) n n)).run Zg wr=.ok (.string (strOfNums (A0j ws n n))) wr):=fun h=>by
   subst h;refine run_convert_bytes_arg wr _ _ D3b (by kernel_rfl) _ 0 k k (A0j ws k k) (by simp[A0j]) (fun i hi=>?_) _ (by kernel_rfl);rw[Zf,hrow.cellAt i (by omega)];simp[A0j,hi]
  go_wp2
  ·have hkn:k<n:=by assumption
   refine⟨⟨k+1,by omega,rfl,?_,hbel.setCell (Ze _) _⟩,by simp[intOf];omega⟩;rw[←F7c ws k n hkn];have:=(hrow.stored k (.int .u8 (B2o ws k))).1;simpa [List.map_set,B2o,p8,Nat.mul_comm,Zb] using this
  ·have hcv:=hconv (by omega);go_wp2;rw[hcv];go_wp2
   go_ret2
   exact⟨rfl,hbel⟩
theorem F1b {P:Program} {t e:TypeId} (ht:P.underlying t=some (.slice e)) (hz:∀ w,(sizeOf e).run P w=.ok 1 w) (b off len cap l h:Nat) (i j:Int) (hi:i=(l:Int)) (hj:j=(h:Int)) (hl:l≤h) (hh:h≤cap) :
  ∃ o C,(∀ w':World,(Instr.slice t (.slice (some ⟨b,off,none⟩) len cap) (some (.int .i64 i)) (some (.int .i64 j)) none).run P w'=.ok (.slice (some ⟨b,o,none⟩) (h-l) C) w')∧h-l≤C ∧
   ∀ (w:World) (cs:List Value),F7 w (some ⟨b,off,none⟩) cs→F7 w (some ⟨b,o,none⟩) ((cs.drop l).take (h-l)):=by
 have he:P.elem t=e:=by simp[Program.elem,ht]
 have ht':P.underlying t=some (.slice (P.elem t)):=by rw[he];exact ht
 refine⟨if cap=l then off else off+l,cap-l,fun w'=>?_,by omega,fun w cs hR=>?_⟩
 ·subst hi hj;rw[run_slice_lh w' t (some ⟨b,off,none⟩) len cap ht' .i64 .i64 (l:Int) (h:Int) (by omega) (by omega) (by omega),he,hz];simp[Result.andThen,sliced,Addr.add]
  split
  ·rfl
  ·split
   ·rename_i h0;subst h0;simp
   ·rfl
 ·split
  ·have:h-l=0:=by omega
   rw[this,List.take_zero];exact F7.nil _ _
  ·intro k u hu;rw[Zd] at hu
   split at hu
   ·rw[List.getElem?_drop] at hu;obtain⟨b',off',ha,hc⟩:=hR _ _ hu;injection ha with ha;injection ha with h1 h2;subst h1 h2;exact⟨b,off+l,rfl,by rw[show off+l+k=off+(l+k) by omega];exact hc⟩
   ·cases hu
theorem F6v (W:List Int) (a m:Nat) (h:a+2+m≤W.length):((C5 W).drop (a+2)).take (a+2+m-(a+2))=C5 (A2c W a m):=by
 rw[show a+2+m-(a+2)=m by omega];apply List.ext_getElem?;intro i;rw[Zd];by_cases hi:i<m
 ·rw[if_pos hi,List.getElem?_drop];simp[C5,A2c,A6,hi,Zb,show a+2+i<W.length by omega]
 ·rw[if_neg hi,List.getElem?_eq_none (by simp[C5,A2c];omega)]
section
variable {M:A7} {S:C8} {hb b:Nat}
theorem E5d (a:Nat) (w:World) (hM:G8 w b 0 M S) (hp:w.cell? ⟨hb,0,none⟩=some (.pointer (some ⟨b,0,none⟩))) (ha:a+1<M.W.length) (hl:M.W.length≤1000000000) :
  Calls Zg 59 #[.pointer (some ⟨hb,0,none⟩),.int .i64 (a:Int)] w fun e w'=>e=.returned (.int .i64 (Z5 M.W a))∧A0 w w':=by
 obtain⟨wb,wo,hWa,hcW⟩:=hM.rW (a+1) _ (K2 M.W (a+1) ha);have c3:=hM.W;simp only[Zf] at c3;rw[hWa] at c3;have hcW':w.cell? ⟨wb,wo+(a+1),none⟩=some (.int .u64 (A6 M.W (a+1))):=hcW;have hl1:=B9 hp;have hl2:=B9 c3;have hl3:=B9 hcW';have e1:IntKind.i64.wrap ((a:Int)+1)=((a+1:Nat):Int):=by rw[Za _ (by omega)];omega
 have hlt:((a+1:Nat):Int)<(M.W.length:Int):=by omega
 unfold Z5;generalize A6 M.W (a+1)=u at *
 clear hM hWa hcW
 go_enter Tryz.func59,Tryz.ntmps59
 go_wp2;go_ret;exact⟨rfl,by repeat (first|exact A0.refl _|(refine A0.drew_ ?_))⟩
theorem E1w (a:Nat) (w:World) (hM:G8 w b 0 M S) (hp:w.cell? ⟨hb,0,none⟩=some (.pointer (some ⟨b,0,none⟩))) (hn:0≤A6 M.W (a+1)∧A6 M.W (a+1)≤2000) (ha:a+2+((A6 M.W (a+1)).toNat+7)/8≤M.W.length) (hl:M.W.length≤1000000000) :
  Calls Zg 61 #[.pointer (some ⟨hb,0,none⟩),.int .i64 (a:Int)] w fun e w'=>e=.returned (.string (V0 M.W a))∧A0 w w':=by
 obtain⟨wb,wo,hWa,hcW⟩:=hM.rW (a+1) _ (K2 M.W (a+1) (by omega));have c3:=hM.W;simp only[Zf] at c3;rw[hWa] at c3;have hcW':w.cell? ⟨wb,wo+(a+1),none⟩=some (.int .u64 (A6 M.W (a+1))):=hcW;have hcap:=hM.capW;have hl1:=B9 hp;have hl2:=B9 c3;have hl3:=B9 hcW';have e1:IntKind.i64.wrap ((a:Int)+1)=((a+1:Nat):Int):=by rw[Za _ (by omega)];omega
 have hlt:((a+1:Nat):Int)<(M.W.length:Int):=by omega
 obtain⟨n,hnn⟩:∃ n:Nat,A6 M.W (a+1)=(n:Int):=⟨(A6 M.W (a+1)).toNat,by omega⟩;obtain⟨o,C,hsl,hC,hRA⟩:=F1b (P:=Zg) A0c A3w wb wo M.W.length S.W.2 (a+2) (a+2+(n+7)/8) ((a:Int)+2) ((a:Int)+2+((n:Int)+7)/8) (by omega) (by omega) (by omega) (by rw[hnn] at ha;omega);have hR:=hRA w _ (hWa ▸ hM.rW);rw[F6v M.W a ((n+7)/8) (by rw[hnn] at ha;omega)] at hR;rw[show a+2+(n+7)/8-(a+2)=(n+7)/8 by omega] at hsl hC;have ht:V0 M.W a=strOfNums (A0j (A2c M.W a ((n+7)/8)) n n):=by unfold V0;rw[hnn,Int.toNat_natCast]
 have hws:∀ x∈A2c M.W a ((n+7)/8),0≤x∧x≤18446744073709551615:=fun x hx=>by
  obtain⟨j,-,rfl⟩:=List.mem_map.1 hx;exact O6 hM.ok _
 have hwl:(A2c M.W a ((n+7)/8)).length=(n+7)/8:=by simp[A2c]
 have e2:IntKind.i64.wrap ((a:Int)+2)=(a:Int)+2:=Za _ (by omega);have hn2:n≤2000:=by omega
 have e3:IntKind.i64.wrap ((n:Int)+7)=(n:Int)+7:=Za _ (by omega);have e4:((n:Int)+7).tdiv 8=((n:Int)+7)/8:=Int.tdiv_eq_ediv_of_nonneg (by omega);have e5:IntKind.i64.wrap (((n:Int)+7)/8)=((n:Int)+7)/8:=Za _ (by omega);have e6:IntKind.i64.wrap ((a:Int)+2+((n:Int)+7)/8)=(a:Int)+2+((n:Int)+7)/8:=Za _ (by omega);have e7:IntKind.i64.wrap (n:Int)=(n:Int):=Za _ (by omega);rw[ht];rw[hnn] at hcW';obtain⟨m,hm⟩:∃ m,(n+7)/8=m:=⟨_,rfl⟩;rw[hm] at hwl hws hR hsl hC ⊢;obtain⟨q,hq⟩:∃ q:Int,((n:Int)+7)/8=q:=⟨_,rfl⟩;rw[hq] at hsl e4 e5 e6;generalize A2c M.W a m=ws at *
 have HCL:Hid (∀ j,j<m→w.cell? ⟨wb,o+j,none⟩=some (.int .u64 (ws.getD j 0))):=fun j hj=>by
  obtain⟨b',o',e,hc⟩:=hR j _ (K2 ws j (by omega));injection e with e;injection e with h1 h2;subst h1 h2;rw[hc,Zb,Zc (by omega)]
 have HWS:=Hz hws;have HWL:=Hz hwl;have hm5:m≤35184372088832:=by omega
 have hn8:n≤8*m:=by omega
 clear hM hWa hcW hRA ht hn ha hnn hR hws hwl hm hq
 go_enter Tryz.func61,Tryz.ntmps61
 go_wp2_with (go_at_call 118;refine (F7j wb o m C ws n hm5 hn8 HWS.out _ (by first|exact hl3|(simp;exact hl3)) (fun j hj=>A0.cell_ eX (HCL.out j hj))).mono ?_;rintro e w1 ⟨rfl,hq⟩;have HX1:Hid (A0 w w1):=A0.trans_ eX hq;clear hq)
 go_ret;exact⟨rfl,HX1.out⟩
end
theorem A9z:Zg.underlying 107=some (.slice 5):=by kernel_rfl
def Y6 (l:List UInt8):List Value:=l.map fun c=>Value.int .u8 (c.toNat:Int)
theorem B0i (a b:List UInt8):Y6 (a++b)=Y6 a++Y6 b:=by simp[Y6]
theorem D5o (l:List UInt8):(Y6 l).length=l.length:=by simp[Y6]
theorem B1k (l:List UInt8):∀ u∈Y6 l,u.oneCell'=true:=by
 intro u hu;obtain⟨x,_,rfl⟩:=List.mem_map.1 hu;rfl
theorem E9k {w:World} {B:Nat} {e:TypeId} {size:Nat} {v:Value} {n:Nat} {xs:List Value} (h:w.ownsRow B e size v n xs):∃ a c,v=.slice a n c:=by
 rcases h.2 with⟨rfl,rfl⟩|⟨g,cap,cur,rfl,_⟩
 ·exact⟨_,_,rfl⟩
 ·exact⟨_,_,rfl⟩
def A8o (l:List UInt8):List Int:=l.map fun c=>(c.toNat:Int)
theorem E8g (l:List UInt8):(A8o l).length=l.length:=by simp[A8o]
theorem F6m (l:List UInt8):strOfNums (A8o l)=⟨l.toArray⟩:=by
 unfold strOfNums A8o;rw[List.map_map];congr 2
 conv=>rhs;rw[←List.map_id l]
 apply List.map_congr_left;intro x _;simp
theorem E9j {w:World} {B:Nat} {a:Option Addr} {c n:Nat} {l:List UInt8} (h:w.ownsRow B 5 1 (.slice a n c) n (Y6 l)) (hn:0<n) :
  n=l.length∧∃ g,a=some ⟨g,0,none⟩∧∀ i,i<n→w.cell? ⟨g,0+i,none⟩=some (.int .u8 ((A8o l).getD i 0)):=by
 have h1:=h.1;rw[D5o] at h1;rcases h.2 with⟨_,h2⟩|⟨g,cap,cur,hv,_,hg,_,_,_,ht⟩
 ·omega
 ·injection hv with h3 _ h5;subst h3;refine⟨by omega,g,rfl,fun i hi=>?_⟩;rw[Zf,cell_of_row w g i cur _ _ hg];have:(Y6 l)[i]?=some (.int .u8 ((A8o l).getD i 0)):=by
   have hil:i<l.length:=by omega
   simp[Y6,A8o,Zb,hil]
  rw[←ht,Zd] at this
  split at this
  ·simpa using this
  ·cases this
theorem B2j (w:World) (e:TypeId) (a:Array Value):F7 (w.alloc (.cells a e)) (some ⟨w.heap.size,0,none⟩) a.toList:=fun j u hu=>by
 refine⟨_,_,rfl,?_⟩;rw[Zf,cell_of_row _ _ j a e (0,0) (heap_alloc_new w _)];simpa using hu
theorem D5d:∀ c:Fin 256,bits BinOp.and IntKind.u8 (c.val:Int) 15=(c.val:Int)%16:=by decide +kernel
abbrev B4b:ByteArray:=⟨#[48,49,50,51,52,53,54,55,56,57,97,98,99,100,101,102]⟩
theorem E2i:∀ v:Fin 16,(B4b[v.val]'(by have:=v.isLt;exact this)).toNat=(A2i v.val).toNat:=by decide +kernel
theorem C6j (v:Nat) (hv:v<16) (W:World):(Instr.index 9 (.string B4b) (.int .u8 (v:Int))).run Zg W=.ok (.int .u8 ((A2i v).toNat:Int)) W:=by
 rw[←E2i ⟨v,hv⟩];rw[run_index_string (P:=Zg) W 9 B4b .u8 (v:Int) (Tryz.underlying9),dif_pos ⟨by omega,by show (v:Int)<16;omega⟩];simp
theorem B0m {w w1 w2:World} {r:Option Nat} (h:A0 w w1) (hg:w1.grownBy w2 r) (hr:∀ k,r=some k→w.heap.size≤k):A0 w w2:=Below.grown h hg h.size hr
theorem B2f {w w':World} {B:Nat} {e:TypeId} {size:Nat} {v:Value} {n:Nat} {xs:List Value} (h:w.ownsRow B e size v n xs) (hx:A0 w w'):w'.ownsRow B e size v n xs:=by
 obtain⟨h1,h2⟩:=h;refine⟨h1,?_⟩;rcases h2 with h2|⟨g,cap,cur,hv,hg,hh,r⟩
 ·exact Or.inl h2
 ·exact Or.inr ⟨g,cap,cur,hv,hg,by rw[Below.block hx g (lt_of_block hh)];exact hh,r⟩
theorem E9l (W:World) (e:TypeId) (x:Value):(W.alloc (.cells #[x] e)).ownsRow W.heap.size e 1 (.slice (some ⟨W.heap.size,0,none⟩) 1 1) 1 [x] :=
 ⟨by simp,Or.inr ⟨W.heap.size,1,#[x],rfl,Ze _,heap_alloc_new W _,Ze _,by unfold maxLen;omega,by simp,by simp⟩⟩
theorem F0d (s:ByteArray) (w:World) (hs:s.size≤17592186044416) :
  Calls Zg 60 #[.string s] w fun e w'=>e=.returned (.string (A5n s))∧A0 w w':=by
 obtain⟨i0,hii,hz0,hz1,hz2⟩:=info_parts C7b;have hdl:s.data.toList.length=s.size:=by simp
 go_enter Tryz.func60,Tryz.ntmps60
 go_upto_region 3 with fail
 go_loopg [9,3] (s.size) (fun r i v wr=>∃ (k:Nat) (a:Option Addr) (n cp:Nat) (L:List UInt8),k+r=s.size∧i=.int .i64 (k:Int)∧v=.slice a n cp∧Hid (wr.ownsRow w.heap.size 5 1 (.slice a n cp) n (Y6 L))∧Hid (L=34::A3k (s.data.toList.take k))∧(1≤n∧n≤4*k+1)∧Hid (A0 w wr))
 case atStart=>exact⟨0,_,1,1,[34],by omega,rfl,rfl,E9l w _ _,rfl,by omega,(A0.refl w).alloc_ _⟩
 case round =>
  obtain⟨k,a,n,cp,L,hk,rfl,rfl,hO,hL,⟨hn1,hn2⟩,hE⟩:=hrel;have hsz:Hid (w.heap.size≤wr.heap.size):=hE.out.size
  cases gk with
  | zero =>
   obtain rfl:k=s.size:=by omega
   have hltz:¬((s.size:Nat):Int)<(s.size:Int):=by omega
   have HK:=Hz hk;have hLf:Hid (L=34::A3k s.data.toList):=by
    have:=hL.out;rw[←hdl,List.take_length] at this;exact this
   clear hk
   go_wp2_with (at_builtin;refine A5e rfl _ _ 107 rfl w.heap.size 5 i0 (.int .u8 0) 1 1 A9z hii hz0 hz1 hz2 rfl (by decide) (.slice a n cp) n (Y6 L) rfl (B2f hO.out ((A0.refl _).alloc_ _)) (some ⟨wr.heap.size,0,none⟩) 1 1 (Y6 [34]) rfl (fun h=>by cases h) (Ze _) rfl (B2j wr _ _) (B1k _) (by unfold maxLen;omega) (by omega) (by have:=hsz.out;simp;omega) ?_;intro a2 c2 w2 hO2 hG2 hv2;have HX2:Hid (A0 w w2):=B0m (hE.out.alloc_ _) hG2 (fun g hg=>(hO.out.lt g hg).1);rw[←B0i] at hO2;obtain⟨e1,g,e2,e3⟩:=E9j hO2 (by omega);subst e2;have e4:(A8o (L++[34])).length=n+1:=(E8g _).trans e1.symm;have hconv:=run_convert_bytes_arg (P:=Zg) w2 107 5 A9z (by kernel_rfl) g 0 (n+1) c2 _ e4 e3 9 (by kernel_rfl);clear hO2 hG2 hv2 e3 e1 e4)
   go_ret;refine⟨?_,HX2.out⟩;show Ending.returned (.string (strOfNums (A8o (L++[34]))))=_;rw[F6m,hLf.out];rfl
  | succ r =>
   have hlt:k<s.size:=by omega
   have hltz:(k:Int)<(s.size:Int):=by omega
   have hc:s.data.toList[k]'(by rw[hdl];exact hlt)=s[k]:=by simp;rfl
   have hsn:=D0t s.data.toList k (by rw[hdl];exact hlt);rw[hc] at hsn;have hb:=s[k].toNat_lt;have HSN:=Hz hsn;have HK:=Hz hk;have hR2:Hid (∀ (t:List UInt8) , t=A3c s[k]→L++t=34::A3k (s.data.toList.take (k+1))):=fun t ht=>by rw[hL.out,ht,HSN.out];rfl
   clear hsn hk hc;by_cases c10:s[k].toNat=10
   ·have z10:((s[k].toNat:Int)==10)=true:=by rw[c10];rfl
    have hR3:=Hz (hR2.out [92,110] (by unfold A3c;rw[if_pos c10]));have C10:=Hz c10;clear c10
    go_wp2_with (at_builtin;refine Lib.wpList_append_own_string _ rfl _ _ 107 9 rfl w.heap.size 5 i0 A9z (by kernel_rfl) hii hz0 hz1 hz2 (.slice a n cp) n (Y6 L) rfl hO.out ⟨#[92,110]⟩ rfl (by unfold maxLen;show n+2≤_;omega) (by show n+2≤_;omega) hsz.out ?_;intro v2 w2 hO2 hG2 hv2;obtain⟨a2,c2,e2⟩:=E9k hO2;subst e2;have HX2:Hid (A0 w w2):=B0m hE.out hG2 (fun g hg=>(hO.out.lt g hg).1);have e3:Lib.strCells ⟨#[92,110]⟩=Y6 [92,110]:=(by rw[Lib.strCells_eq];rfl);rw[e3,←B0i] at hO2;have HO2:=Hz hO2;clear hO2 hG2 hv2 e3)
    go_roundg r
    case measure=>omega
    case rel=>exact⟨k+1,a2,n+2,c2,_,by have:=HK.out;omega,by go_num,rfl,HO2.out,hR3.out,by omega,HX2.out⟩
   have z10:((s[k].toNat:Int)==10)=false:=by simp;omega
   by_cases c34:s[k].toNat=34∨s[k].toNat=92
   ·have hR3:=Hz (hR2.out [92,s[k]] (by unfold A3c;rw[if_neg c10,if_pos c34]));rcases c34 with c34|c34
    ·have z34:((s[k].toNat:Int)==34)=true:=by rw[c34];rfl
     have C34:=Hz c34;clear c34 c10
     go_wp2_with (at_builtin;refine A5e rfl _ _ 107 rfl w.heap.size 5 i0 (.int .u8 0) 1 1 A9z hii hz0 hz1 hz2 rfl (by decide) (.slice a n cp) n (Y6 L) rfl (B2f hO.out ((A0.refl _).alloc_ _)) (some ⟨wr.heap.size,0,none⟩) 2 2 (Y6 [92,s[k]]) rfl (fun h=>by cases h) (Ze _) rfl (B2j wr _ _) (B1k _) (by unfold maxLen;omega) (by omega) (by have:=hsz.out;simp;omega) ?_;intro a2 c2 w2 hO2 hG2 hv2;have HX2:Hid (A0 w w2):=B0m (hE.out.alloc_ _) hG2 (fun g hg=>(hO.out.lt g hg).1);rw[←B0i] at hO2;have HO2:=Hz hO2;clear hO2 hG2 hv2)
     go_roundg r
     case measure=>omega
     case rel=>exact⟨k+1,a2,n+2,c2,_,by have:=HK.out;omega,by go_num,rfl,HO2.out,hR3.out,by omega,HX2.out⟩
    ·have z34:((s[k].toNat:Int)==34)=false:=by rw[c34];rfl
     have z92:((s[k].toNat:Int)==92)=true:=by rw[c34];rfl
     have C34:=Hz c34;clear c34 c10
     go_wp2_with (at_builtin;refine A5e rfl _ _ 107 rfl w.heap.size 5 i0 (.int .u8 0) 1 1 A9z hii hz0 hz1 hz2 rfl (by decide) (.slice a n cp) n (Y6 L) rfl (B2f hO.out ((A0.refl _).alloc_ _)) (some ⟨wr.heap.size,0,none⟩) 2 2 (Y6 [92,s[k]]) rfl (fun h=>by cases h) (Ze _) rfl (B2j wr _ _) (B1k _) (by unfold maxLen;omega) (by omega) (by have:=hsz.out;simp;omega) ?_;intro a2 c2 w2 hO2 hG2 hv2;have HX2:Hid (A0 w w2):=B0m (hE.out.alloc_ _) hG2 (fun g hg=>(hO.out.lt g hg).1);rw[←B0i] at hO2;have HO2:=Hz hO2;clear hO2 hG2 hv2)
     go_roundg r
     case measure=>omega
     case rel=>exact⟨k+1,a2,n+2,c2,_,by have:=HK.out;omega,by go_num,rfl,HO2.out,hR3.out,by omega,HX2.out⟩
   have z34:((s[k].toNat:Int)==34)=false:=by simp;omega
   have z92:((s[k].toNat:Int)==92)=false:=by simp;omega
   by_cases c32:s[k].toNat<32∨126<s[k].toNat
   ·have hR3:=Hz (hR2.out [92,120,A2i (s[k].toNat/16),A2i (s[k].toNat%16)] (by unfold A3c;rw[if_neg c10,if_neg c34,if_pos c32]));have hsm:s[k].toNat<256:=hb;have b8:bits BinOp.and IntKind.u8 (s[k].toNat:Int) 15=(s[k].toNat:Int)%16:=D5d ⟨s[k].toNat,hsm⟩;have i1:∀ W:World,(Instr.index 9 (.string ⟨#[48,49,50,51,52,53,54,55,56,57,97,98,99,100,101,102]⟩) (.int .u8 ((s[k].toNat:Int)/16))).run Zg W=.ok (.int .u8 ((A2i (s[k].toNat/16)).toNat:Int)) W:=fun W=>by
     have:=C6j (s[k].toNat/16) (by omega) W;rw[show ((s[k].toNat/16:Nat):Int)=(s[k].toNat:Int)/16 by omega] at this;exact this
    have i2:∀ W:World,(Instr.index 9 (.string ⟨#[48,49,50,51,52,53,54,55,56,57,97,98,99,100,101,102]⟩) (.int .u8 ((s[k].toNat:Int)%16))).run Zg W=.ok (.int .u8 ((A2i (s[k].toNat%16)).toNat:Int)) W:=fun W=>by
     have:=C6j (s[k].toNat%16) (by omega) W;rw[show ((s[k].toNat%16:Nat):Int)=(s[k].toNat:Int)%16 by omega] at this;exact this
    have I1:=Hz i1;have I2:=Hz i2;generalize A2i (s[k].toNat/16)=h1 at *
    generalize A2i (s[k].toNat%16)=h2 at *
    clear c10 c34 i1 i2;by_cases c33:s[k].toNat<32
    ·have z32:decide ((s[k].toNat:Int)<32)=true:=decide_eq_true (by omega);clear c32 c33
     go_upto_region 12 with fail
     refine wp_region_held_drew (S:=fun W=>True) (by kernel_rfl) ?_ (fun hH=>?_)
     ·trivial
     refine tJ 0 42 rfl ?_
     try simp only[A5]
     refine tJ 1 43 rfl ?_
     try simp only[A5]
     refine tJ 2 44 rfl ?_
     try simp only[A5]
     refine tk 3 ⟨some 45,_,_,_,_,_⟩ ?_ rfl ?_ ?_;rotate_left
     ·(intro w hSw;have hlk:=I1.out w;go_simp;try with_reducible rfl)
     try simp only[A5]
     refine tJ 4 46 rfl ?_
     try simp only[A5]
     refine tJ 5 47 rfl ?_
     try simp only[A5]
     try rw[b8]
     refine tk 6 ⟨some 48,_,_,_,_,_⟩ ?_ rfl ?_ ?_;rotate_left
     ·(intro w hSw;have hlk:=I2.out w;go_simp;try with_reducible rfl)
     try simp only[A5]
     refine wpAnyH_ready (rs:=[7]) (by kernel_rfl) (by simp) ?_;refine AllReadyH.cons (o:=⟨some 49,_,_,_,_,_⟩) rfl (fun K hK=>?_) AllReadyH.nil;go_simp;skip;refine hK.out _ _ ?_ (fun hH=>?_)
     ·(try dsimp only);first|done|trivial
     clear hK K
     try simp only[A5]
     refine wpAnyH_ready (rs:=[8]) (by kernel_rfl) (by simp) ?_;refine AllReadyH.cons (o:=⟨some 50,_,_,_,_,_⟩) rfl (fun K hK=>?_) AllReadyH.nil;refine A5b (by rfl) _ _ 107 (by rfl) w.heap.size 5 i0 (.int .u8 0) 1 1 A9z hii hz0 hz1 hz2 (by rfl) (by decide) (.slice a n cp) n (Y6 L) (by rfl) (B2f hO.out ((A0.refl wr).drew_.alloc_ _)) (some ⟨wr.heap.size,0,none⟩) 4 4 (Y6 [92,120,h1,h2]) (by rfl) (fun h=>by cases h) (Ze _) (by rfl) (B2j wr.drew _ _) (B1k _) (by unfold maxLen;omega) (by omega) (by have h1:=hsz.out;have h2:wr.drew.heap.size=wr.heap.size:=rfl;simp;omega) ?_;intro a2 c2 w2 hO2 hG2 hv2;have HX2:Hid (A0 w w2):=B0m (hE.out.drew_.alloc_ _) hG2 (fun g hg=>(hO.out.lt g hg).1);rw[←B0i] at hO2;have HO2:=Hz hO2;clear hO2 hG2 hv2;refine hK.out _ _ ?_ (fun hH=>?_)
     ·trivial
     clear hK K
     try simp only[A5]
     refine tJ 9 3 rfl ?_
     try simp only[A5]
     refine wpAnyH_done (by kernel_rfl) ?_ _;clear hH;go_wp2
     go_roundg r
     case measure=>omega
     case rel=>exact⟨k+1,a2,n+4,c2,_,by have:=HK.out;omega,by go_num,rfl,HO2.out,hR3.out,by omega,HX2.out⟩
    ·have z32:decide ((s[k].toNat:Int)<32)=false:=decide_eq_false (by omega);have z126:decide (126<(s[k].toNat:Int))=true:=decide_eq_true (by omega);clear c32 c33
     go_upto_region 12 with fail
     refine wp_region_held_drew (S:=fun W=>True) (by kernel_rfl) ?_ (fun hH=>?_)
     ·trivial
     refine tJ 0 42 rfl ?_
     try simp only[A5]
     refine tJ 1 43 rfl ?_
     try simp only[A5]
     refine tJ 2 44 rfl ?_
     try simp only[A5]
     refine tk 3 ⟨some 45,_,_,_,_,_⟩ ?_ rfl ?_ ?_;rotate_left
     ·(intro w hSw;have hlk:=I1.out w;go_simp;try with_reducible rfl)
     try simp only[A5]
     refine tJ 4 46 rfl ?_
     try simp only[A5]
     refine tJ 5 47 rfl ?_
     try simp only[A5]
     try rw[b8]
     refine tk 6 ⟨some 48,_,_,_,_,_⟩ ?_ rfl ?_ ?_;rotate_left
     ·(intro w hSw;have hlk:=I2.out w;go_simp;try with_reducible rfl)
     try simp only[A5]
     refine wpAnyH_ready (rs:=[7]) (by kernel_rfl) (by simp) ?_;refine AllReadyH.cons (o:=⟨some 49,_,_,_,_,_⟩) rfl (fun K hK=>?_) AllReadyH.nil;go_simp;skip;refine hK.out _ _ ?_ (fun hH=>?_)
     ·(try dsimp only);first|done|trivial
     clear hK K
     try simp only[A5]
     refine wpAnyH_ready (rs:=[8]) (by kernel_rfl) (by simp) ?_;refine AllReadyH.cons (o:=⟨some 50,_,_,_,_,_⟩) rfl (fun K hK=>?_) AllReadyH.nil;refine A5b (by rfl) _ _ 107 (by rfl) w.heap.size 5 i0 (.int .u8 0) 1 1 A9z hii hz0 hz1 hz2 (by rfl) (by decide) (.slice a n cp) n (Y6 L) (by rfl) (B2f hO.out ((A0.refl wr).drew_.alloc_ _)) (some ⟨wr.heap.size,0,none⟩) 4 4 (Y6 [92,120,h1,h2]) (by rfl) (fun h=>by cases h) (Ze _) (by rfl) (B2j wr.drew _ _) (B1k _) (by unfold maxLen;omega) (by omega) (by have h1:=hsz.out;have h2:wr.drew.heap.size=wr.heap.size:=rfl;simp;omega) ?_;intro a2 c2 w2 hO2 hG2 hv2;have HX2:Hid (A0 w w2):=B0m (hE.out.drew_.alloc_ _) hG2 (fun g hg=>(hO.out.lt g hg).1);rw[←B0i] at hO2;have HO2:=Hz hO2;clear hO2 hG2 hv2;refine hK.out _ _ ?_ (fun hH=>?_)
     ·trivial
     clear hK K
     try simp only[A5]
     refine tJ 9 3 rfl ?_
     try simp only[A5]
     refine wpAnyH_done (by kernel_rfl) ?_ _;clear hH;go_wp2
     go_roundg r
     case measure=>omega
     case rel=>exact⟨k+1,a2,n+4,c2,_,by have:=HK.out;omega,by go_num,rfl,HO2.out,hR3.out,by omega,HX2.out⟩
   ·have hR3:=Hz (hR2.out [s[k]] (by unfold A3c;rw[if_neg c10,if_neg c34,if_neg c32]));have z32:decide ((s[k].toNat:Int)<32)=false:=decide_eq_false (by omega);have z126:decide (126<(s[k].toNat:Int))=false:=decide_eq_false (by omega);clear c10 c34 c32
    go_wp2_with (at_builtin;refine A5e rfl _ _ 107 rfl w.heap.size 5 i0 (.int .u8 0) 1 1 A9z hii hz0 hz1 hz2 rfl (by decide) (.slice a n cp) n (Y6 L) rfl (B2f hO.out ((A0.refl _).alloc_ _)) (some ⟨wr.heap.size,0,none⟩) 1 1 (Y6 [s[k]]) rfl (fun h=>by cases h) (Ze _) rfl (B2j wr _ _) (B1k _) (by unfold maxLen;omega) (by omega) (by have:=hsz.out;simp;omega) ?_;intro a2 c2 w2 hO2 hG2 hv2;have HX2:Hid (A0 w w2):=B0m (hE.out.alloc_ _) hG2 (fun g hg=>(hO.out.lt g hg).1);rw[←B0i] at hO2;have HO2:=Hz hO2;clear hO2 hG2 hv2)
    go_roundg r
    case measure=>omega
    case rel=>exact⟨k+1,a2,n+1,c2,_,by have:=HK.out;omega,by go_num,rfl,HO2.out,hR3.out,by omega,HX2.out⟩
theorem A7t {bl:Nat} {w2 wr w4 w5:World} (hbl:bl=w2.heap.size) (hE:A0 w2 wr) (hx:A0 wr w4) (hb:Below bl w4 w5):A0 w2 w5:=by subst hbl;exact (hE.trans_ hx).trans hb
theorem A0.heap_ {w w':World} (h:A0 w w') {k:Nat} {o:Obj} (hk:w.heap[k]?=some o):w'.heap[k]?=some o:=by
 obtain⟨q1,q2,q3,q4,q5⟩:=h;have hl:k<w.heap.size:=by
  rcases Nat.lt_or_ge k w.heap.size with g|g
  ·exact g
  ·simp[Array.getElem?_eq_none g] at hk
 rw[q5 k hl];exact hk
theorem C1f (l:Array UInt8):(⟨l⟩:ByteArray).size=l.size:=rfl
theorem D1a (l:List Ob) (out:ByteArray) (u:Int):(A2p l out u).size≤out.size+40:=by
 have:=A9x u l;unfold A2p;simp only[ByteArray.size_append,C1f];simp;omega
theorem C5h (l:List Ob) (kind:Int) (out:ByteArray) (u:Int):(A1e l kind out u).size≤out.size+40:=by
 have:=A9x u l;have:=E2h u;unfold A1e
 split
 ·simp only[ByteArray.size_append,C1f];simp;omega
 ·simp only[ByteArray.size_append,C1f];simp;omega
theorem C0p (i:Nat) (kind:Int) (out:ByteArray):(A0f i kind out).size≤out.size+50:=by
 have:=A5k (i:Int);have:=A5k kind;unfold A0f;simp only[ByteArray.size_append,show ∀ l:Array UInt8,(⟨l⟩:ByteArray).size=l.size from fun _=>rfl];simp;omega
theorem B6o {α:Type} (g:ByteArray→α→ByteArray) (out:ByteArray) (us:List α) (k:Nat) (hk:k<us.length):(us.take (k+1)).foldl g out=g ((us.take k).foldl g out) us[k]:=by
 rw[List.take_add_one,Zc hk,List.foldl_append];rfl
def D4c (w:World) (M:A7) (e:Ending) (w':World):Prop:=e=.returned (.string (A7f M))∧A0 w w'
theorem C2r (hb b:Nat) (M:A7) (S:C8) (w:World) (hM:G8 w b 0 M S) (hp:w.cell? ⟨hb,0,none⟩=some (.pointer (some ⟨b,0,none⟩))) (hg:goodB M=true) (hF:Few M) (hT:A3p w) (hnr:∀ x∈F5 M,A2s M.W x) :
  Calls Zg 19 #[.pointer (some ⟨hb,0,none⟩)] w (D4c w M):=by
 obtain⟨hs,hob,hro,hwk,hfo,hid⟩:=K5 hg;have hlr:=(A7c hg).len;have hlo:=B7v hs;have hlM:=A3u hs;have hrl:(F5 M).length≤196608:=by omega
 have HRO:Hid (∀ k,k<M.roots.length→D0 (C6 M) (M.roots.getD k 0)=true):=fun k hk=>A4d hro hk
 have HRB:Hid (∀ k,k<M.roots.length→0≤M.roots.getD k 0∧M.roots.getD k 0≤18446744073709551615):=fun k hk=>Y1 (P:=fun x=>0≤x∧x≤18446744073709551615) hM.ok.roots hk
 have HMEM:Hid (∀ x∈F5 M,x∈D8 M):=fun x hx=>(A7c hg).mem x hx
 have hRl:=hF.R;have HM:=Hz hM;have HG:=Hz hg;have HS:=Hz hs;have HFO:=Hz hfo;have HP:=Hz hp;have HNR:=Hz hnr;have HTB:=Hz hT;have hbz:=hM.lt;have q00:=hp;clear hM hg hs hob hro hwk hfo hid hF hlr hlo hlM hT hp hnr
 go_enter Tryz.func19,Tryz.ntmps19
 go_upto_region 3 with (go_at_call 53;refine (B7g b 0 M S _ HM.out HG.out).mono ?_;rintro e w2 ⟨ta,tc,mb,rfl,hT,hMp,hB2,hno,hq⟩;have HX2:=Hz hq;have HT:=Hz hT;have HMP:=Hz hMp;clear hq hT hMp hB2 hno)
 obtain⟨bl,hbl⟩:∃ bl,bl=w2.heap.size:=⟨_,rfl⟩;refine P4 (fun W3 hW3=>?_);have hB3:Bld bl bl ⟨#[]⟩ W3:=by rw[hW3,hbl];exact D5p w2
 have hX3:A0 w2 W3:=by rw[hW3];exact (A0.refl _).alloc_ _
 rw[←hbl];have HBL:=Hz hbl;have HB3:=Hz hB3;have HX3:=Hz hX3;have hM3:=HM.out.ext (HX2.out.trans_ hX3);have q03:=(HX2.out.trans_ hX3).cell_ HP.out;have r3:=hM3.roots;have hbz3:=hM3.lt;simp only[Zf] at r3;clear hW3 hX3 hB3 hbl hM3 q00;obtain⟨l,hl⟩:∃ l,l=F5 M:=⟨_,rfl⟩;rw[←hl] at HMEM hrl ⊢;have HLL:=Hz hl;clear hl;obtain⟨sr,hsr⟩:∃ sr,S.R.1=sr:=⟨_,rfl⟩;rw[hsr] at r3;have HSR:=Hz hsr;clear hsr;have z5:(⟨#[114,111,111,116,32]⟩:ByteArray).size=5:=rfl;have z1':(⟨#[32]⟩:ByteArray).size=1:=rfl;have z1:(⟨#[10]⟩:ByteArray).size=1:=rfl;go_wp2
 go_loopg [30] (M.roots.length) (fun r i wr=>∃ (k:Nat) (s:ByteArray),k+r=M.roots.length∧i=.int .i64 (k:Int)∧s.size≤40*k∧Hid (s=A1l l (M.roots.take k) ⟨#[]⟩)∧Hid (Bld bl bl s wr)∧Hid (A0 w2 wr))
 case atStart=>exact⟨0,_,by omega,rfl,Ze _,rfl,HB3.out,HX3.out⟩
 case round =>
  obtain⟨k,s,hk,rfl,hsz,hs,hB,hE⟩:=hrel
  cases gk with
  | succ r =>
   have hlt:k<M.roots.length:=by omega
   have hltz:(k:Int)<(M.roots.length:Int):=by omega
   have hMr:=HM.out.ext (HX2.out.trans_ hE.out);obtain⟨rb,ro,hRa,hc⟩:=hMr.rR k _ (K2 M.roots k hlt);obtain⟨hu2,hu3⟩:=HRB.out k hlt;have hu1:=HRO.out k hlt;have hsn:=B6o (A2p l) ⟨#[]⟩ M.roots k hlt;have hgd:M.roots[k]=M.roots.getD k 0:=by rw[Zb,Zc hlt];rfl
   rw[hgd] at hsn;generalize M.roots.getD k 0=u at *
   have ht:=A9x u l;have hblz:=hB.out.lt;obtain rfl:sr=some ⟨rb,ro,none⟩:=HSR.out.symm.trans hRa;have hrs:=D1a l s u;have HU:=Hz hu1;have HSN:=Hz hsn;have HK2:=Hz hk;clear hMr hRa hu1 hsn hgd hk hlt
   go_wp2_with (first
    | (go_at_call 55;refine (C8c M HG.out u hu2 hu3 HU.out (by rw[←HLL.out];omega) mb _ (HMP.out.ext hE.out) ((HTB.out.ext HX2.out).ext hE.out)).mono ?_;rintro e w4 ⟨he,hq⟩;rw[←HLL.out] at he;subst he;have HX4:=Hz hq;clear hq)
    | (go_at_call 54;refine (B0a bl bl s _ _ (hB.out.ext HX4.out) (by rw[ByteArray.size_append,ByteArray.size_append];omega) (by have:=HX4.out.size;omega)).mono ?_;rintro e w5 ⟨z,rfl,q1,q2,q3⟩;have HB5:=Hz q1;have HE5:=Hz (A7t HBL.out hE.out HX4.out q2);clear q1 q2 q3))
   go_roundg r
   case measure=>omega
   case rel =>
    refine⟨k+1,A2p l s u,(by have:=HK2.out;omega),(by go_num),(by omega),?_,?_,HE5.out⟩
    ·show _=_;unfold A1l at hs ⊢;rw[HSN.out,←hs.out]
    ·have e:A2p l s u=s++((⟨#[114,111,111,116,32]⟩++T4 u l)++⟨#[10]⟩):=by unfold A2p;simp only[ByteArray.append_assoc]
     rw[e];exact HB5.out
  | zero =>
   obtain rfl:k=M.roots.length:=by omega
   have hltz:¬((M.roots.length:Nat):Int)<(M.roots.length:Int):=by omega
   have hs':s=A1l l M.roots ⟨#[]⟩:=by have:=hs.out;rw[List.take_length] at this;exact this
   have HS1:=Hz hs';have hsz0:s.size≤40000000:=by omega
   have hTr:=(I9.read HT.out).2;have HTR:=Hz hTr;clear hs hs' hk hTr hsz;generalize hTA:ta=TA;have HTA:=Hz hTA;clear hTA;obtain⟨wA,rfl⟩:∃ x,x=wr:=⟨wr,rfl⟩;have HEA:Hid (A0 w2 wA):=hE.out;have HBA:Hid (Bld bl bl s wA):=hB.out;have HG0:Hid (V6 M.W l 0 (l.drop 0) s=A7f M):=by
    unfold Hid A7f;rw[←HLL.out,List.drop_zero,HS1.out]
   clear hE hB;clear q03
   go_upto_region 9 with fail
   go_loopg [43] (l.length) (fun r i wr=>∃ (k:Nat) (s:ByteArray),k+r=l.length∧i=.int .i64 (k:Int)∧s.size≤40000000+200000*k∧Hid (V6 M.W l k (l.drop k) s=A7f M)∧Hid (Bld bl bl s wr)∧Hid (A0 w2 wr))
   case atStart=>exact⟨0,s,by omega,rfl,by omega,HG0.out,HBA.out,HEA.out⟩
   case round =>
    clear HG0 hsz0 HS1;obtain⟨k,s,hk,rfl,hsz,hs,hB,hE⟩:=hrel
    cases gk with
    | succ r =>
     have hlt:k<l.length:=by omega
     have hltz:(k:Int)<(l.length:Int):=by omega
     have hat:(G9 l)[k]'(by rw[A4o];exact hlt)=(l[k].a:Int):=by simp[G9]
     obtain⟨tb,tp,hTe,hc0⟩:=(HTR.out.ext hE.out) _ _ (by rw[←HLL.out];exact B5b (G9 l) k (by rw[A4o];exact hlt));rw[hat] at hc0;obtain rfl:TA=some ⟨tb,tp,none⟩:=HTA.out.symm.trans hTe;have hmem:=HMEM.out _ (List.getElem_mem hlt);have hdrop:l.drop k=l[k]::l.drop (k+1):=List.drop_eq_getElem_cons hlt;have hs2:=hs.out;rw[hdrop,V6] at hs2;obtain⟨m1,m2,m3⟩:=A2z HS.out hmem;have hobn:=B6p HM.out.ok HS.out hmem;have hk8:=HNR.out _ (by rw[←HLL.out];exact List.getElem_mem hlt);have hhd:=Z9 l[k].w (by rw[m2];exact (O6 HM.out.ok _).1);have hsz4:=((A1v l[k].w).1 m3).2.2;have hfo:D2 (B3 l[k].w)=false→∀ j,j<l[k].n→D0 (C6 M) (A6 M.W (l[k].a+1+j))=true:=fun hr j hj=>B1t HFO.out hmem hr j hj
     have hsz44:B5 l[k].w≤4096:=hsz4;have hW:=A3u HS.out;generalize l[k]=x at *
     have hxw:=O6 HM.out.ok x.a;rw[←m2] at hxw;have hMr:G8 wr b 0 M S:=HM.out.ext (HX2.out.trans_ hE.out);have c3:=hMr.W;have q0r:=(HX2.out.trans_ hE.out).cell_ HP.out;have hbzr:=hMr.lt;simp only[Zf] at c3;have hil:x.a<M.W.length:=by omega
     have hilz:(x.a:Int)<(M.W.length:Int):=by omega
     obtain⟨wb,wo,hWa,hcW⟩:=hMr.rW x.a _ (K2 M.W x.a hil);have hcW':wr.cell? ⟨wb,wo+x.a,none⟩=some (.int .u64 x.w):=by rw[hcW,m2];simp[A6,Zb,hil]
     rw[hWa] at c3;obtain⟨kd,hkd⟩:∃ kd,B3 x.w=kd:=⟨_,rfl⟩;have HRO:=Hz hk8;rw[hkd] at hs2 hhd hfo;clear hk8;have hdz1:=A5k (k:Int);have hdz2:=A5k kd;have hk64:(k:Int)≤9223372036854775807:=by omega
     have hhs:=C0p k kd s;have n1:¬9223372036854775807<(P8 (k:Int)).size+1:=by omega
     have n2:¬9223372036854775807<(P8 (k:Int)).size+1+(P8 kd).size:=by omega
     obtain⟨hk0,hk255,_⟩:=hhd;have hcapW:=hMr.capW;have HWA:=Hz hWa;have HS2:=Hz hs2;have HK2:=Hz hk;have HM1:=Hz m1;have HFO2:=Hz hfo;have HXN:Hid ((x.n:Int)=B5 x.w):=hobn;have HE2:=Hz hE.out;have HB2:=Hz hB.out;have HSZ:=Hz hsz;have HWW:=Hz hW;have HXW:=Hz hxw;have HM3:=Hz m3;have HIL:=Hz hil;have HKD:=Hz hkd;clear hs hs2 hdrop hmem m1 m2 m3 hobn hfo hE hB hkd hk hlt hW hsz4 hat hTe hxw hMr hil hWa hcW hsz
     go_upto_region 12 with (go_at_call 56;refine (A3d x.w HXW.out.1 HXW.out.2 HM3.out _).mono ?_;rintro e w5 ⟨rfl,hq⟩;have HX5:=Hz hq;clear hq)
     refine P4 (fun W5 hW5=>?_);obtain⟨H,hH⟩:∃ H,H=w5.heap.size:=⟨_,rfl⟩;rw[←hH];have hX5:A0 wr W5:=by rw[hW5];exact HX5.out.alloc_ _
     have hob:W5.heap[H]?=some (.cells #[.int .i64 kd,.int .i64 (F4 x.w),.int .i64 (G5 x.w),.int .i64 (B5 x.w)] 92 (0,0)):=by rw[hW5,hH,←HKD.out];exact heap_alloc_new _ _
     have hHb:bl<H:=by rw[hH];exact Nat.lt_of_lt_of_le HB2.out.lt HX5.out.size
     have h0:W5.cell? ⟨H,0,none⟩=some (.int .i64 kd):=by simp[World.cell?,hob]
     have HOB:=Hz hob;have HX:=Hz hX5;have HHB:=Hz hHb;clear hW5 hH hX5 hob hHb hc0 hcW' c3 q0r;go_wp2;refine wp_region_held_drew (S:=fun W=>W.cell? ⟨H,0,none⟩=some (.int .i64 kd)) (by kernel_rfl) ?_ (fun hH=>?_)
     ·exact h0
     refine tJ 0 62 rfl ?_
     try simp only[A5]
     refine tJ 3 65 rfl ?_
     try simp only[A5]
     refine tJ 4 66 rfl ?_
     try simp only[A5]
     refine wpAnyH_ready (rs:=[1]) (by kernel_rfl) (by simp) ?_;refine AllReadyH.cons (o:=⟨some 63,_,_,_,_,_⟩) rfl (fun K hK=>?_) AllReadyH.nil;go_simp;refine (C0z (k:Int) (by omega) (by omega) _ (((HTB.out.ext HX2.out).ext (HE2.out.trans_ HX.out)).ext eX)).mono ?_;rintro e w6 ⟨rfl,hq⟩;have q6:=hq.cell_ hH;have HX6:Hid (A0 W5 w6):=A0.trans_ eX hq;clear hq;refine hK.out _ _ ?_ (fun hH=>?_)
     ·(try dsimp only);exact q6
     clear hK K
     try simp only[A5]
     refine tJ 2 64 rfl ?_
     try simp only[A5]
     refine wpAnyH_ready (rs:=[5]) (by kernel_rfl) (by simp) ?_;refine AllReadyH.cons (o:=⟨some 67,_,_,_,_,_⟩) rfl (fun K hK=>?_) AllReadyH.nil;go_simp;refine (C0z kd (by omega) (by omega) _ (((HTB.out.ext HX2.out).ext (HE2.out.trans_ HX.out)).ext HX6.out)).mono ?_;rintro e w7 ⟨rfl,hq⟩;have q7:=hq.cell_ hH;have HX7:=Hz hq;clear hq;refine hK.out _ _ ?_ (fun hH=>?_)
     ·(try dsimp only);exact q7
     clear hK K
     try simp only[A5]
     refine tJ 6 68 rfl ?_
     try simp only[A5]
     refine wpAnyH_ready (rs:=[7]) (by kernel_rfl) (by simp) ?_;refine AllReadyH.cons (o:=⟨some 69,_,_,_,_,_⟩) rfl (fun K hK=>?_) AllReadyH.nil;go_simp;refine (B0a bl bl s _ _ (HB2.out.ext (HX.out.trans_ (HX6.out.trans_ HX7.out))) (by rw[ByteArray.size_append,ByteArray.size_append,z1'];have:=HSZ.out;omega) (by have h1:=HBL.out;have h2:=HE2.out.size;have h3:=HX.out.size;have h4:=HX6.out.size;have h5:=HX7.out.size;omega)).mono ?_;rintro e w8 ⟨z,rfl,q1,q2,q3⟩;have HB8:=Hz q1;have HQ2:=Hz q2;have hob8:=q3 H _ ((HX6.out.trans_ HX7.out).heap_ HOB.out) (by simp;have:=HHB.out;omega) (by intro c fz e;injection e with e1 e2;revert e2;decide);have HOB8:=Hz hob8;have q8:w8.cell? ⟨H,0,none⟩=some (.int .i64 kd):=by simp[World.cell?,hob8]
     clear q1 q2 q3 hob8;refine hK.out _ _ ?_ (fun hH=>?_)
     ·(try dsimp only);exact q8
     clear hK K
     try simp only[A5]
     refine wpAnyH_done (by kernel_rfl) ?_ _;have hHW:=hH;clear hH h0;have hE8:A0 w2 w8:=A7t HBL.out HE2.out (HX.out.trans_ (HX6.out.trans_ HX7.out)) HQ2.out;have hB8:Bld bl bl (A0f k kd s) w8:=by
      have e:A0f k kd s=s++((P8 (k:Int)++⟨#[32]⟩)++P8 kd):=by unfold A0f;simp only[ByteArray.append_assoc]
      rw[e];exact HB8.out
     obtain⟨y,hy⟩:∃ y,y=A0f k kd s:=⟨_,rfl⟩;rw[←hy] at hB8 hhs;have HY:=Hz hy;have HE8:=Hz hE8;have HB8y:=Hz hB8;have hMc:=HM.out.ext (HX2.out.trans_ hE8);have q08:=(HX2.out.trans_ hE8).cell_ HP.out;have h08:w8.cell? ⟨H,0,none⟩=some (.int .i64 kd):=by simp[World.cell?,HOB8.out]
     have HWL:Hid (M.W.length≤1000000000):=by have:=HWW.out;unfold Hid;omega
     by_cases hk1:kd=1
     ·have hk1b:(kd==1)=true:=by simpa using hk1
      have HLT:Hid (x.a+1<M.W.length):=by have h1:=HM1.out;have h2:=HRO.out.one (HKD.out.trans hk1);unfold Hid;omega
      have HTS:Hid ((P8 (Z5 M.W x.a)).size≤22):=A5k _;have hts:=HTS.out;clear hMc HRO;have hbd:Q9 M.W l x y=(y++⟨#[32]⟩)++P8 (Z5 M.W x.a):=by unfold Q9;rw[HKD.out];rw[if_pos hk1]
      go_upto_region 23 with (first
       | (go_at_call 59;refine (E5d x.a _ (HM.out.ext (HX2.out.trans_ (HE8.out.trans_ eX))) ((HX2.out.trans_ (HE8.out.trans_ eX)).cell_ HP.out) HLT.out HWL.out).mono ?_;rintro e w9 ⟨rfl,hq⟩;have HX9:Hid (A0 w8 w9):=A0.trans_ eX hq;clear hq)
       | (go_at_call 58;refine (C5q (Z5 M.W x.a) (B7f _ _).1 (B7f _ _).2 _ ((HTB.out.ext HX2.out).ext (HE8.out.trans_ HX9.out))).mono ?_;rintro e w4 ⟨rfl,hq⟩;have HXC:Hid (A0 w8 w4):=HX9.out.trans_ hq;clear hq)
       | (go_at_call 54;refine (B0a bl bl y _ _ (HB8y.out.ext HXC.out) (by rw[ByteArray.size_append];have h1:=HSZ.out;have h2:=HTS.out;omega) (by have h1:=HXC.out.size;have h2:=HB8y.out.lt;omega)).mono ?_;rintro e w6 ⟨z,rfl,q1,q2,q3⟩;have HB6:=Hz q1;have HE6:=Hz (A7t HBL.out HE8.out HXC.out q2);clear q1 q2 q3))
      have HB7:Hid (Bld bl bl (Q9 M.W l x y) w6):=by
       rw[hbd,show (y++(⟨#[32]⟩:ByteArray))++P8 (Z5 M.W x.a)=y++(⟨#[32]⟩++P8 (Z5 M.W x.a)) by rw[ByteArray.append_assoc]];exact HB6.out
      have hbz:(Q9 M.W l x y).size≤y.size+9000:=by rw[hbd];simp only[ByteArray.size_append];have h2:=HTS.out;have z1:(⟨#[32]⟩:ByteArray).size=1:=rfl;omega
      have hblz:=HB7.out.lt;have HBZ:=Hz hbz;clear hbd HB6 hbz
      go_wp2_with (go_at_call 54;refine (B0a bl bl (Q9 M.W l x y) _ _ (HB7.out.ext eX) (by have h1:=HBZ.out;have h2:=HSZ.out;have z1:(⟨#[10]⟩:ByteArray).size=1:=rfl;omega) (by first|omega|(simp;omega))).mono ?_;rintro e w7 ⟨z,rfl,q1,q2,q3⟩;have HB8:=Hz q1;have HE9:=Hz (A7t HBL.out HE6.out eX q2);clear q1 q2 q3)
      go_roundg r
      case measure=>omega
      case rel =>
       refine⟨k+1,Q9 M.W l x y++⟨#[10]⟩,(by have:=HK2.out;omega),(by go_num),(by rw[ByteArray.size_append];have h1:=HBZ.out;have h2:=HSZ.out;have z1:(⟨#[10]⟩:ByteArray).size=1:=rfl;omega),?_,HB8,HE9⟩;have h:=HS2.out;rw[←HY.out] at h;exact h
     have hk1b:(kd==1)=false:=by simpa using hk1
     by_cases hk2:kd=2
     ·have hk2b:(kd==2)=true:=by simpa using hk2
      have h2':=HRO.out.two (HKD.out.trans hk2);have HLT:Hid ((0≤A6 M.W (x.a+1)∧A6 M.W (x.a+1)≤2000)∧x.a+2+((A6 M.W (x.a+1)).toNat+7)/8≤M.W.length):=⟨⟨h2'.1,h2'.2.1⟩,by have h1:=HM1.out;omega⟩;have HTS:Hid ((A5n (V0 M.W x.a)).size≤8002):=by have h1:=D0s (V0 M.W x.a);rw[B8k] at h1;unfold Hid;omega
      have hts:=HTS.out;clear hMc HRO h2';have hbd:Q9 M.W l x y=(y++⟨#[32]⟩)++A5n (V0 M.W x.a):=by unfold Q9;rw[HKD.out];rw[if_neg hk1,if_pos hk2]
      go_upto_region 23 with (first
       | (go_at_call 61;refine (E1w x.a _ (HM.out.ext (HX2.out.trans_ (HE8.out.trans_ eX))) ((HX2.out.trans_ (HE8.out.trans_ eX)).cell_ HP.out) HLT.out.1 HLT.out.2 HWL.out).mono ?_;rintro e w9 ⟨rfl,hq⟩;have HX9:Hid (A0 w8 w9):=A0.trans_ eX hq;clear hq)
       | (go_at_call 60;refine (F0d (V0 M.W x.a) _ (by rw[B8k];have:=HLT.out.1;omega)).mono ?_;rintro e w4 ⟨rfl,hq⟩;have HXC:Hid (A0 w8 w4):=HX9.out.trans_ hq;clear hq)
       | (go_at_call 54;refine (B0a bl bl y _ _ (HB8y.out.ext HXC.out) (by rw[ByteArray.size_append];have h1:=HSZ.out;have h2:=HTS.out;omega) (by have h1:=HXC.out.size;have h2:=HB8y.out.lt;omega)).mono ?_;rintro e w6 ⟨z,rfl,q1,q2,q3⟩;have HB6:=Hz q1;have HE6:=Hz (A7t HBL.out HE8.out HXC.out q2);clear q1 q2 q3))
      have HB7:Hid (Bld bl bl (Q9 M.W l x y) w6):=by
       rw[hbd,show (y++(⟨#[32]⟩:ByteArray))++A5n (V0 M.W x.a)=y++(⟨#[32]⟩++A5n (V0 M.W x.a)) by rw[ByteArray.append_assoc]];exact HB6.out
      have hbz:(Q9 M.W l x y).size≤y.size+9000:=by rw[hbd];simp only[ByteArray.size_append];have h2:=HTS.out;have z1:(⟨#[32]⟩:ByteArray).size=1:=rfl;omega
      have hblz:=HB7.out.lt;have HBZ:=Hz hbz;clear hbd HB6 hbz
      go_wp2_with (go_at_call 54;refine (B0a bl bl (Q9 M.W l x y) _ _ (HB7.out.ext eX) (by have h1:=HBZ.out;have h2:=HSZ.out;have z1:(⟨#[10]⟩:ByteArray).size=1:=rfl;omega) (by first|omega|(simp;omega))).mono ?_;rintro e w7 ⟨z,rfl,q1,q2,q3⟩;have HB8:=Hz q1;have HE9:=Hz (A7t HBL.out HE6.out eX q2);clear q1 q2 q3)
      go_roundg r
      case measure=>omega
      case rel =>
       refine⟨k+1,Q9 M.W l x y++⟨#[10]⟩,(by have:=HK2.out;omega),(by go_num),(by rw[ByteArray.size_append];have h1:=HBZ.out;have h2:=HSZ.out;have z1:(⟨#[10]⟩:ByteArray).size=1:=rfl;omega),?_,HB8,HE9⟩;have h:=HS2.out;rw[←HY.out] at h;exact h
     have hk2b:(kd==2)=false:=by simpa using hk2
     have hk8:8≤kd:=by
      rcases HRO.out.kind with q|q|q<;>rw[HKD.out] at q
      ·exact absurd q hk1
      ·exact absurd q hk2
      ·exact q
     have hbd:Hid (Q9 M.W l x y=A1f l kd (K8 M.W x) y):=by unfold Hid Q9;rw[HKD.out,if_neg hk1,if_neg hk2]
     clear HRO;have c3:=hMc.W;have hbz8:=hMc.lt;simp only[Zf] at c3;rw[HWA.out] at c3;have hcap:=hMc.capW;have hsz:=HXN.out;have hm1:=HM1.out;have h3:w8.cell? ⟨H,3,none⟩=some (.int .i64 (B5 x.w)):=by simp[World.cell?,HOB8.out]
     obtain⟨A,C,hsl,hAC,hAn,hRA⟩:=B4x (P:=Zg) A0c A3w wb wo M.W.length S.W.2 (x.a+1) (x.a+1+x.n) ((x.a:Int)+1) ((x.a:Int)+1+B5 x.w) (by omega) (by omega) (by omega) (by omega);have HRA2:Hid (∀ wr,G8 wr b 0 M S→F7 wr A (C5 (K8 M.W x))):=fun wr hr=>by
      have:=hRA wr _ (HWA.out ▸ hr.rW);rw[B3v M x (by omega)] at this;exact this
     rw[show x.a+1+x.n-(x.a+1)=x.n by omega] at hsl hAC;have e1:IntKind.i64.wrap ((x.a:Int)+1)=(x.a:Int)+1:=Za _ (by have:=HWW.out;omega);have e2:IntKind.i64.wrap ((x.a:Int)+1+B5 x.w)=(x.a:Int)+1+B5 x.w:=Za _ (by have:=HWW.out;omega);have hxn:x.n≤1000000:=by omega
     have hHz:=B9 h3;simp only at hHz;clear hRA hMc hcap hm1 hy hE8 hB8 hHW;go_wp2;go_region;go_wp2;have HXN2:=Hz hxn;obtain⟨wB,hwB⟩:∃ x,x=w8.drew:=⟨_,rfl⟩;have HEB:Hid (A0 w2 wB):=by rw[hwB];exact HE8.out.drew_
     have HBB:Hid (Bld bl bl y wB):=by rw[hwB];exact HB8y.out.ext ((A0.refl _).drew_)
     have HOBB:Hid (wB.heap[H]?=some (.cells #[.int .i64 kd,.int .i64 (F4 x.w),.int .i64 (G5 x.w),.int .i64 (B5 x.w)] 92 (0,0))):=by rw[hwB];exact HOB8.out
     clear hsl hAC e1 e2 c3 h3
     go_loopg [88] (x.n) (fun r i wr2=>∃ (j:Nat) (t:ByteArray),j+r=x.n∧i=.int .i64 (j:Int)∧t.size≤y.size+40*j∧Hid (t=A1f l kd ((K8 M.W x).take j) y)∧Hid (Bld bl bl t wr2)∧Hid (A0 w2 wr2)∧Hid (wr2.heap[H]?=some (.cells #[.int .i64 kd,.int .i64 (F4 x.w),.int .i64 (G5 x.w),.int .i64 (B5 x.w)] 92 (0,0))))
     case atStart=>(try rw[←hwB]);exact⟨0,y,by omega,rfl,Ze _,rfl,HBB.out,HEB.out,HOBB.out⟩
     case round =>
      obtain⟨j,t,hj,rfl,htz,ht,hB,hE,hOb⟩:=hrel;have h0:wr.cell? ⟨H,0,none⟩=some (.int .i64 kd):=by simp[World.cell?,hOb.out]
      have hHz:=B9 h0;simp only at hHz
      cases gk with
      | succ r2 =>
       have hlt:j<x.n:=by omega
       have hltz2:(j:Int)<(x.n:Int):=by omega
       obtain⟨ab,ao,hA,hcell⟩:=HRA2.out _ (HM.out.ext (HX2.out.trans_ hE.out)) j _ (K2 (K8 M.W x) j (by simp[K8];omega));have hgd:(K8 M.W x).getD j 0=A6 M.W (x.a+1+j):=by simp[K8,Zb,hlt]
       rw[hgd] at hcell;subst hA;obtain⟨hu2,hu3⟩:=O6 HM.out.ok (x.a+1+j);have hsn:=B6o (A1e l kd) y (K8 M.W x) j (by simp[K8];omega);have hge:(K8 M.W x)[j]'(by simp[K8];omega)=A6 M.W (x.a+1+j):=by simp[K8]
       rw[hge] at hsn;have hfb:D2 kd=false→D0 (C6 M) (A6 M.W (x.a+1+j))=true:=fun hr=>HFO2.out hr j hlt
       generalize A6 M.W (x.a+1+j)=u at *
       have htd:=A9x u l;have hfz:=C5h l kd t u;have hblz:=hB.out.lt;have HJ:=Hz hj;have HSN:=Hz hsn;have HFB:=Hz hfb;have HTZ:=Hz htz;have hyz:y.size≤1000000000000:=by have:=HSZ.out;omega
       clear hj hsn hfb htz hgd hge hlt;have hrw:D2 kd=false:=decide_eq_false (by omega);have HR:=Hz hrw;have HU:=Hz (HFB.out hrw);have z2:(⟨#[32]⟩:ByteArray).size=1:=rfl;clear hrw
       go_wp2_with (first
        | (go_at_call 55;refine (C8c M HG.out u hu2 hu3 HU.out (by rw[←HLL.out];omega) mb _ (HMP.out.ext hE.out) ((HTB.out.ext HX2.out).ext hE.out)).mono ?_;rintro e w4 ⟨he,hq⟩;rw[←HLL.out] at he;subst he;have HX4:=Hz hq;clear hq)
        | (go_at_call 54;refine (B0a bl bl t _ _ (hB.out.ext HX4.out) (by rw[ByteArray.size_append];have:=HTZ.out;omega) (by have h1:=HX4.out.size;omega)).mono ?_;rintro e w6 ⟨z,rfl,q1,q2,q3⟩;have HB6:=Hz q1;have HE6:=Hz (A7t HBL.out hE.out HX4.out q2);have HO6:=Hz (q3 H _ (HX4.out.heap_ hOb.out) (by simp;have:=HHB.out;omega) (by intro c fz e;injection e with e1 e2;revert e2;decide));clear q1 q2 q3))
       go_roundg r2
       case measure=>omega
       case rel =>
        refine⟨j+1,A1e l kd t u,(by have:=HJ.out;omega),(by go_num),(by have:=HTZ.out;omega),?_,?_,HE6.out,HO6.out⟩
        ·show _=_;have h1:=HSN.out;unfold A1f at ht ⊢;rw[h1,←ht.out]
        ·have e:A1e l kd t u=t++(⟨#[32]⟩++T4 u l):=by
          unfold A1e;rw[if_neg (show ¬kd<8 by omega)];simp only[ByteArray.append_assoc]
         rw[e];exact HB6.out
      | zero =>
       obtain rfl:j=x.n:=by omega
       have hltz2:¬((x.n:Nat):Int)<(x.n:Int):=by omega
       have ht':t=A1f l kd (K8 M.W x) y:=by
        have:=ht.out;rw[List.take_of_length_le (by simp[K8])] at this;exact this
       have HT':=Hz ht';have hxn':=HXN.out;have HTZ:=Hz htz;have hblz:=hB.out.lt;clear ht ht' hj htz
       go_wp2_with (go_at_call 54;refine (B0a bl bl t _ _ hB.out (by have h1:=HTZ.out;have h2:=HSZ.out;omega) (by omega)).mono ?_;rintro e w6 ⟨z,rfl,q1,q2,q3⟩;have HB6:=Hz q1;have HE6:=Hz (A7t HBL.out hE.out (A0.refl _) q2);clear q1 q2 q3)
       go_roundg r
       case measure=>omega
       case rel =>
        refine⟨k+1,t++⟨#[10]⟩,(by have:=HK2.out;omega),(by go_num),(by rw[ByteArray.size_append];have h1:=HTZ.out;have h2:=HSZ.out;omega),?_,HB6,HE6⟩;have h:=HS2.out;rw[←HY.out,hbd.out,←HT'.out] at h;exact h
    | zero =>
     obtain rfl:k=l.length:=by omega
     have hltz:¬((l.length:Nat):Int)<(l.length:Int):=by omega
     have hgs:s=A7f M:=by
      have h:=hs.out;rw[List.drop_length,V6] at h;exact h
     obtain⟨g,hg⟩:∃ g,g=A7f M:=⟨_,rfl⟩;rw[←hg] at hgs;subst hgs;have HGS:=Hz hg;have hblz:=hB.out.lt;clear hs hg hk hsz
     go_wp2_with (go_at_call 62;refine (F6o bl bl _ _ hB.out (by omega)).mono ?_;rintro e w8 ⟨rfl,hq⟩;have HQ8:=Hz (A7t HBL.out hE.out (A0.refl _) hq);clear hq)
     go_ret;exact⟨by rw[HGS.out];rfl,HX2.out.trans_ HQ8.out⟩
theorem C9t (W:List Int) (l:List Ob):∀ (i:Nat) (xs:List Ob) (out:ByteArray),(∀ x∈xs,8≤B3 x.w)→V6 W l i xs out=B7u W l i xs out
 | _,[],_,_=>rfl
 | i,x::xs,out,h=>by
  have h1:=h x (by simp);have e:Q9 W l x (A0f i (B3 x.w) out)=A1f l (B3 x.w) (K8 W x) (A0f i (B3 x.w) out):=by unfold Q9;rw[if_neg (by omega),if_neg (by omega)]
  rw[V6,B7u,e];exact C9t W l (i+1) xs _ fun y hy=>h y (by simp[hy])
theorem F5p (hb b:Nat) (M:A7) (S:C8) (w:World) (hM:G8 w b 0 M S) (hp:w.cell? ⟨hb,0,none⟩=some (.pointer (some ⟨b,0,none⟩))) (hg:goodB M=true) (hF:Few M) (hT:A3p w) (hnr:∀ x∈F5 M,8≤B3 x.w) :
  Calls Zg 19 #[.pointer (some ⟨hb,0,none⟩)] w fun e w'=>e=.returned (.string (A8e M))∧A0 w w':=by
 refine (C2r hb b M S w hM hp hg hF hT fun x hx=>⟨Or.inr (Or.inr (hnr x hx)),fun q=>by have:=hnr x hx;omega,fun q=>by have:=hnr x hx;omega⟩).mono ?_;rintro e w9 ⟨he,hq⟩;refine⟨?_,hq⟩;rw[he];unfold A7f A8e;rw[C9t _ _ _ _ _ hnr]
section
variable {B hb b:Nat} {M:A7} {S:C8} {E:Nat→Addr} {ten nx:Int}
theorem D7.extB {w0 w1 w':World} {S':C8} (hX:A0 w0 w1) (hB:w0.heap.size≤B) (hH:E7 w1 B hb b M S ten nx) (hS:D7 hb b w1 S w' S'):A0 w0 w' :=
 Below.trans hX ⟨hS.keep.os,hS.keep.tape,hS.keep.output,hS.keep.size,fun k hk=>hS.keep.block k (Nat.lt_of_lt_of_le hk hX.size) fun e=>by have:=(hH.own e).1;omega⟩
theorem G4.gb {w:World} (h:G4 E w):GB w.heap.size:=⟨B9 h.bound,B9 h.shape,B9 h.place,B9 h.full⟩
theorem D6.few {M:A7} {nx:Int} (h:D6 M nx) (hr:M.roots.length≤1000000) (hw:M.weak.length≤1000000) (hi:M.ids.length≤1000000):Few M:=by
 have hs:=(K5 (L8 h.chk).1).1;obtain⟨h1,h2,h3,h4,h5,h6,h7,h8,h9,h10,h11,h12,h13,h14⟩:=hs;refine⟨by omega,hr,hw,hi,?_⟩;have:(M.old+M.card-1)/M.card≤M.old+M.card-1:=Int.ediv_le_self _ (by omega);omega
end
theorem B7m (half old card:Int) (n:Nat) (h:A1i half old card=true) (hn:n≤5000):D6 (A3j half old card n) 1:=by
 refine⟨E7q half old card n h hn,?_,by omega,by simp[A3j,T3]⟩;simp only[A1i,Bool.and_eq_true] at h;obtain⟨⟨h1,h2⟩,h3⟩:=h;exact (E1l half old card (P0.1 h1) (P0.1 h2) (P0.1 h3) (List.replicate n 2) fun x hx=>by rw[(List.mem_replicate.1 hx).2];decide).chk
theorem E2k (half old card ten:Int) (h:A1i half old card=true) (ht:0≤ten∧ten≤15) (w:World) :
  Calls Zg 10 #[.agg #[.int .i64 half,.int .i64 old,.int .i64 card,.int .i64 ten],.int .i64 2] w (B9d w ten (A3j half old card 2)):=C0s half old card ten 2 h ht (by omega) w
def C0t:A7:=A3j 8 16 4 2
def A8g:A7:=Z1 C0t 0 29
def A9j:A7:=Z1 (J1 A8g 1 8 1) 1 4
theorem B4c:J0 A8g 1 1=0∧U1 A8g 1 1=0:=by decide +kernel
theorem E2n:A8e A9j=⟨#[114,111,111,116,32,55,10,114,111,111,116,32,64,48,10,48,32,56,32,110,111,110,101,10]⟩:=by decide +kernel
theorem E2o:(F5 A9j).all (fun x=>decide (8≤B3 x.w))=true:=by decide +kernel
theorem C6l:D6 A8g 1:=by
 have h:=B7m 8 16 4 2 (by decide) (by omega);obtain⟨lN,lO,hg⟩:=A4r h.chk;exact (A7e h hg 0 29 (by omega) (by rfl)).1
theorem B1v:D6 A9j 1∧A9j.roots.length=2∧A9j.weak.length=0∧A9j.ids.length=0:=by
 obtain⟨i1,i2,i3⟩:=A4z (ten:=1) (sz:=1) (by omega) C6l 8 (by omega) (by omega);obtain⟨a,ha,hN⟩:=i3 B4c.1;obtain⟨lN,lO,hg,hm⟩:=hN.good;rw[B4c.2] at ha;have ha0:a=0:=by omega
 subst ha0;refine⟨(A7e i1 hg 1 4 (by omega) ?_).1,?_,?_,?_⟩
 ·unfold D0;rw[if_pos (by decide),Bool.or_eq_true];exact Or.inr (D1v.2 hm)
 ·show ((J1 A8g 1 8 1).roots.set 1 4).length=2;rw[List.length_set,i2.roots];rfl
 ·show (J1 A8g 1 8 1).weak.length=0;rw[i2.weak];rfl
 ·show (J1 A8g 1 8 1).ids.length=0;have:=i2.ids;have e:A8g.ids.length=0:=rfl;omega
theorem C0u (E:Nat→Addr) (w:World) (hE:G4 E w) (hT:A3p w) :
  Calls Zg 9 #[] w fun e w'=>e=.returned (.bool true)∧A0 w w':=by
 have HE:=Hz hE;have HT:=Hz hT;have HGB:=Hz hE.gb;clear hE hT
 go_enter Tryz.func9,Tryz.ntmps9
 go_wp2_with (first
  | (go_at_call 10;refine (E2k 8 16 4 1 (by decide) (by omega) _).mono ?_;rintro e w1 ⟨hb,b,S,rfl,h1,hq⟩;have HH1:Hid (E7 w1 w.heap.size hb b C0t S 1 1):=h1;have HX1:=Hz hq;clear h1 hq)
  | (go_at_call 15;refine (C7e _ HH1.out (B7m 8 16 4 2 (by decide) (by omega)) (HE.out.ext HX1.out) (by omega) HGB.out 0 (by omega) (by decide) 7).mono ?_;rintro e w2 ⟨he,S2,h1,h2⟩;rw[show F1 E (Y9 C0t 1 7)=.nilIface from rfl] at he;subst he;have HH2:Hid (E7 w2 w.heap.size hb b A8g S2 1 1):=h1;have HS2:=Hz h2;clear h1 h2)
  | (go_at_call 11;refine (C8i w2 HH2.out C6l ((HE.out.ext HX1.out).step HH1.out HS2.out HGB.out) (by omega) HGB.out 1 (by omega) (by decide) 8 1 (by omega) (by omega)).mono ?_;rintro e w3 ⟨he,S3,h1,h2⟩;rw[B4c.1,show F1 E 0=.nilIface from rfl] at he;subst he;rw[B4c.1,B4c.2] at h1;have HH3:Hid (E7 w3 w.heap.size hb b A9j S3 1 1):=h1;have HS3:Hid (D7 hb b w1 S w3 S3):=HS2.out.trans_ h2;have HX3:Hid (A0 w w3):=D7.extB HX1.out (Ze _) HH1.out HS3.out;clear h1 h2)
  | (go_at_call 19;refine (F5p hb b A9j S3 w3 (HH3.out.mem.mem B1v.1.ok) HH3.out.ptr (L8 B1v.1.chk).1 (B1v.1.few (by rw[B1v.2.1];omega) (by rw[B1v.2.2.1];omega) (by rw[B1v.2.2.2];omega)) (HT.out.ext HX3.out) (fun x hx=>of_decide_eq_true (List.all_eq_true.1 E2o x hx))).mono ?_;rintro e w4 ⟨he,hq⟩;rw[E2n] at he;subst he;have HX4:Hid (A0 w w4):=HX3.out.trans_ hq;clear hq))
 go_ret;exact⟨rfl,HX4.out⟩
end Go.Proofs.YtelhoppfidibiaaGreatDoor
