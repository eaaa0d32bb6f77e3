/- A slice of the call's own from which values go in front and to which they come behind: where it stands, and what an append does to it. Over any program. -/
import Derived.Test.YtelhoppfidibiaaGreatDoorJXa03
import Derived.Shelf.Abstract
set_option linter.unusedSimpArgs false
set_option linter.unusedVariables false
set_option maxHeartbeats 2000000
set_option maxRecDepth 100000
namespace Go.Proofs.YtelhoppfidibiaaGreatDoor
open Go.RowKit
open IntWalk renaming i64_in→Za
open List renaming eq_nil_of_length_eq_zero→Zb,getD_eq_getElem?_getD→Zc,getElem?_eq_getElem→Zd,getElem_mem→Ze
open Go.Proofs.Tryz renaming prog→Zf
def I9 (w:World) (B:Nat) (e:TypeId) (v:Value) (xs:List Value):Prop :=
 (v=.slice none 0 0∧xs=[]) ∨
 ∃ g off cap cur,v=.slice (some ⟨g,off,none⟩) xs.length cap∧B≤g∧w.heap[g]?=some (.cells cur e (0,0))∧xs.length≤cap∧cap≤maxLen∧off+cap≤cur.size∧(cur.toList.drop off).take xs.length=xs
theorem I9.nil (w:World) (B:Nat) (e:TypeId):I9 w B e (.slice none 0 0) []:=Or.inl ⟨rfl,rfl⟩
theorem I9.of_own {w:World} {B:Nat} {e:TypeId} {v:Value} {n:Nat} {xs:List Value} (h:w.ownsRow B e 1 v n xs):I9 w B e v xs:=by
 obtain⟨h1,h2⟩:=h;rcases h2 with⟨rfl,rfl⟩|⟨g,cap,cur,rfl,q1,q2,q3,q4,q5,q6⟩
 ·exact Or.inl ⟨rfl,Zb (by simpa using h1)⟩
 ·obtain rfl:xs.length=n:=by omega
  exact Or.inr ⟨g,0,cap,cur,rfl,q1,q2,q3,q4,by omega,by simpa using q6⟩
theorem I9.lt {w:World} {B:Nat} {e:TypeId} {v:Value} {xs:List Value} (h:I9 w B e v xs) {k:Nat} (hk:v.ownBlock=some k):B≤k∧k<w.heap.size:=by
 rcases h with⟨rfl,_⟩|⟨g,off,cap,cur,rfl,q1,q2,_⟩
 ·simp[Value.ownBlock] at hk
 ·simp[Value.ownBlock] at hk;subst hk;exact⟨q1,lt_of_block q2⟩
theorem I9.kept {w w':World} {B:Nat} {e:TypeId} {v:Value} {xs:List Value} (h:I9 w B e v xs) (hk:∀ k,v.ownBlock=some k→w'.heap[k]?=w.heap[k]?):I9 w' B e v xs:=by
 rcases h with h|⟨g,off,cap,cur,rfl,q1,q2,q⟩
 ·exact Or.inl h
 ·exact Or.inr ⟨g,off,cap,cur,rfl,q1,by rw[hk g rfl];exact q2,q⟩
theorem I9.keep {L:Nat→Prop} {w w':World} {B:Nat} {e:TypeId} {v:Value} {xs:List Value} (h:I9 w B e v xs) (k:A8 L w w') (hl:∀ g,v.ownBlock=some g→¬L g):I9 w' B e v xs :=
 h.kept fun g hg=>k.block g (h.lt hg).2 (hl g hg)
theorem I9.ext {w w':World} {B:Nat} {e:TypeId} {v:Value} {xs:List Value} (h:I9 w B e v xs) (k:A0 w w'):I9 w' B e v xs :=
 h.kept fun g hg=>Below.block k g (h.lt hg).2
theorem I9.slice {w:World} {B:Nat} {e:TypeId} {v:Value} {xs:List Value} (h:I9 w B e v xs):∃ a n c,v=.slice a n c:=by
 rcases h with⟨rfl,_⟩|⟨g,off,cap,cur,rfl,_⟩
 ·exact⟨_,_,_,rfl⟩
 ·exact⟨_,_,_,rfl⟩
theorem I9.head {w:World} {B:Nat} {e:TypeId} {v x:Value} {xs:List Value} (h:I9 w B e v (x::xs)) :
  ∃ g off cap,v=.slice (some ⟨g,off,none⟩) (xs.length+1) (cap+1)∧w.cell? ⟨g,off,none⟩=some x∧xs.length≤cap∧I9 w B e (.slice (some ⟨g,off+1,none⟩) xs.length cap) xs:=by
 rcases h with⟨_,h⟩|⟨g,off,cap,cur,rfl,q1,q2,q3,q4,q5,q6⟩
 ·cases h
 ·simp only[List.length_cons] at q3 q6;obtain⟨c,rfl⟩:∃ c,cap=c+1:=⟨cap-1,by omega⟩;have hlen:off<cur.toList.length:=by rw[Array.length_toList];omega
  rw[List.drop_eq_getElem_cons hlen] at q6;simp only[List.take_succ_cons,List.cons.injEq] at q6;refine⟨g,off,c,rfl,?_,by omega,Or.inr ⟨g,off+1,c,cur,rfl,q1,q2,by omega,by omega,by omega,q6.2⟩⟩;rw[cell_of_row w g off cur e (0,0) q2,←q6.1];simp at hlen;simp[hlen]
theorem I9.rest {P:Program} {t:TypeId} {w:World} {B:Nat} {e:TypeId} {v x:Value} {xs:List Value} (h:I9 w B e v (x::xs)) (ht:P.underlying t=some (.slice e)) (hz:∀ w,(sizeOf e).run P w=.ok 1 w) :
  ∃ g off cap A,v=.slice (some ⟨g,off,none⟩) (xs.length+1) (cap+1)∧w.cell? ⟨g,off,none⟩=some x∧(∀ w':World,(Instr.slice t (.slice (some ⟨g,off,none⟩) (xs.length+1) (cap+1)) (some (.int .i64 1)) none none).run P w'=.ok (.slice A xs.length cap) w') ∧
   I9 w B e (.slice A xs.length cap) xs∧(Value.slice A xs.length cap).ownBlock=some g:=by
 have hb:=h;obtain⟨g,off,cap,hv,hc,hl,hr⟩:=h.head;have he:P.elem t=e:=by simp[Program.elem,ht]
 have ht':P.underlying t=some (.slice (P.elem t)):=by rw[he];exact ht
 refine⟨g,off,cap,if cap=0 then some ⟨g,off,none⟩ else some ⟨g,off+1,none⟩,hv,hc,fun w'=>?_,?_,?_⟩
 ·rw[run_slice_l w' t (some ⟨g,off,none⟩) (xs.length+1) (cap+1) ht' .i64 1 (by omega) (by omega),he,hz];simp[Result.andThen,sliced,Addr.add]
 ·split
  ·rename_i h0;subst h0;obtain rfl:xs=[]:=Zb (by omega);rcases hb with⟨_,hb⟩|⟨g',off',cap',cur,hv',q1,q2,q3,q4,q5,q6⟩
   ·cases hb
   ·rw[hv] at hv';injection hv' with e1 _ e3;injection e1 with e1;injection e1 with e1 e2;subst e1 e2;exact Or.inr ⟨g,off,0,cur,rfl,q1,q2,by simp,by omega,by omega,by simp⟩
  ·exact hr
 ·split<;>simp[Value.ownBlock]
section
variable {P:Program} {w:World}
theorem B2k (t ty:TypeId) (B:Nat) (e:TypeId) (i:TypeInfo) (z:Value) (bytes:Nat) (ht:P.underlying t=some (.slice e)) (hi:P.info? e=some i) (hz:i.zero=some z)
  (hsize:i.size=1) (hby:i.bytes=bytes) (hzs:z.cells.size=1) (v:Value) (xs:List Value) (h:I9 w B e v xs) (ad:Addr) (c:Nat) (x:Value) (hx:w.cell? ad=some x) (h1:x.oneCell'=true)
  (h63:xs.length+1≤maxLen) (hbytes:(xs.length+1)*bytes≤140737488355328) (hB:B≤w.heap.size) :
  ∃ v' w',(Builtin.append_ #[t,t] ty #[v,.slice (some ad) 1 c]).run P w=.ok v' w'∧I9 w' B e v' (xs++[x])∧w.grownBy w' v.ownBlock∧(∀ k,v'.ownBlock=some k→v.ownBlock=some k∨w.heap.size≤k):=by
 have hnews:∀ j u,[x][j]?=some u→w.cell? (ad.add j)=some u:=fun j u hj=>by
  cases j with
  | zero =>
   simp at hj;subst hj;have e:ad.add 0=ad:=by cases ad;unfold Addr.add;split<;>simp_all
   rw[e];exact hx
  | succ j=>simp at hj
 have h1':∀ u∈[x],u.oneCell'=true:=fun u hu=>by rw[List.mem_singleton.1 hu];exact h1
 have new_:∀ (v':Value) (w':World),w'.ownsRow w.heap.size e 1 v' (xs.length+1) (xs++[x])→I9 w' B e v' (xs++[x])∧∀ k,v'.ownBlock=some k→w.heap.size≤k:=fun v' w' ho=>by
  rcases ho.2 with⟨q1,q2⟩|⟨g,cap,cur,q1,q2,q⟩
  ·omega
  ·refine⟨I9.of_own (n:=xs.length+1) ⟨ho.1,Or.inr ⟨g,cap,cur,q1,by omega,q⟩⟩,fun k hk=>?_⟩;rw[q1] at hk;simp[Value.ownBlock] at hk;omega
 rcases h with⟨rfl,rfl⟩|⟨g,off,cap,cur,rfl,q1,q2,q3,q4,q5,q6⟩
 ·obtain⟨v',w',hr,ho,hg,-⟩:=run_append_own (P:=P) w w.heap.size t ty e i z 1 bytes ht hi hz hsize hby hzs (by omega) (.slice none 0 0) 0 [] (World.ownsRow_nil w _ e 1) ad 1 c [x] rfl hnews h1' (by simpa using h63) (by simpa using hbytes) (Nat.le_refl _);obtain⟨n1,n2⟩:=new_ v' w' (by simpa using ho);exact⟨v',w',hr,n1,hg,fun k hk=>Or.inr (n2 k hk)⟩
 ·by_cases hroom:xs.length+1≤cap
  ·have hcell:w.cell? ⟨g,off+xs.length,none⟩=some (cur.getD (off+xs.length) default):=by
    rw[cell_of_row w g _ cur e (0,0) q2,Array.getD_eq_getD_getElem?,Array.getElem?_eq_getElem (by omega)];rfl
   have hr:=run_append_room_cells (P:=P) w t ty e i ht hi g off xs.length cap ad 1 c [x] (by simp[hsize]) hnews h1' hroom
    (fun j hj=>by (obtain rfl:j=0:=by simpa using hj);rw[hsize,Nat.mul_one,Nat.add_zero,hcell];rfl)
    (fun j hj=>by simp[World.frozen?,q2])
   rw[hsize,Nat.mul_one] at hr;refine⟨_,_,hr,Or.inr ⟨g,off,cap,cur.setIfInBounds (off+xs.length) x,by simp,q1,?_,by simpa using hroom,q4,by simpa using q5,?_⟩,?_,fun k hk=>Or.inl hk⟩
   ·simp only[World.setCells];exact heap_setCell_same w g _ cur e x q2
   ·rw[Array.toList_setIfInBounds,List.drop_set,if_neg (by omega),List.length_append,List.length_singleton];have hl:cap≤(cur.toList.drop off).length:=by rw[List.length_drop,Array.length_toList];omega
    rw[show off+xs.length-off=xs.length by omega,List.take_add_one,List.take_set,List.set_eq_of_length_le (by rw[List.length_take];omega),q6,List.getElem?_set_self (by omega)];rfl
   ·simp only[World.setCells];exact⟨rfl,rfl,rfl,by simp[World.setCell],fun k _ hk=>heap_setCell_other w ⟨g,off+xs.length,none⟩ k x (fun e=>hk (by simp[Value.ownBlock,e]))⟩
  ·have holds:∀ j u,xs[j]?=some u→w.cell? ((⟨g,off,none⟩:Addr).add j)=some u:=fun j u hu=>by
    rw[Addr.add_lit,cell_of_row w g _ cur e (0,0) q2];rw[←q6,List.getElem?_take] at hu
    split at hu
    ·simpa using hu
    ·cases hu
   obtain⟨v',w',hr,ho,hg⟩:=run_append_arg_grows (P:=P) w t ty e i z 1 bytes ht hi hz hsize hby hzs (by omega) ⟨g,off,none⟩ xs.length cap xs (by simp) holds ad 1 c [x] rfl hnews (by omega) h63 hbytes;obtain⟨n1,n2⟩:=new_ v' w' ho;exact⟨v',w',hr,n1,⟨hg.os,hg.tape,hg.output,hg.size,fun k hk _=>hg.block k hk (by simp)⟩,fun k hk=>Or.inr (n2 k hk)⟩
theorem B5j {ops:Array Oper} {rest:List Oper} {o:Oper} {a:Act} {Q:Exit→Act→World→Prop} (hgd:o.guard=none) (s x:Operand) (t:TypeId)
  (ho:o.op=.call {callee:=.builtin .append,args:=#[s,x],argTypes:=#[t,t]}) (vs vx:Value) (hs:a.eval s=vs) (hx:a.eval x=vx) {v':Value} {w':World}
  (hr:(Builtin.append_ #[t,t] o.type #[vs,vx]).run P w=.ok v' w') (h:wpList P ops Q rest (a.put o.dst v') w'):wpList P ops Q (o::rest) a w :=
 wpList_plain hgd fun _ hK=>by
  unfold Oper.wp execOp;simp only[ho,resolve,invoke,builtin,Sem.run_bind,Sem.run_pure,Result.andThen_ok,List.map_toArray,List.map_cons,List.map_nil,hs,hx,hr];exact hK _ _ h
end
def D2 (k:Int):Bool:=decide (k<8)
def L4 (M:A7) (a:Int):Bool:=decide (2*M.half≤a)
def J5 (M:A7) (a:Int):Bool:=(C7 a==0)&&(a != 0)&&!L4 M (C9 a)
def F8 (st:List Int) (a:Int):Bool:=st.contains a
def D0 (st:List Int) (a:Int):Bool :=
 if C7 a=0 then a==0||F8 st (C9 a) else if C7 a=1 then true else if C7 a=2 then decide (a/4≤2) else false
def A0e (M:A7) (a:Int):Bool:=M.cards.getD ((a-2*M.half)/M.card).toNat false
theorem A3l (k:Int) (w:World):Calls Zf 89 #[.int .i64 k] w fun e w'=>e=.returned (.bool (D2 k))∧w'=w:=by
 unfold D2
 go_enter Tryz.func89,Tryz.ntmps89
 go_wp2;go_ret;exact⟨rfl,rfl⟩
theorem B3g (w:World) (b o:Nat) (M:A7) (S:C8) (hM:G8 w b o M S) (hs:G2 M) :
  Calls Zf 133 #[.pointer (some ⟨b,o,none⟩)] w fun e w'=>e=.returned (.int .i64 (M.base:Int))∧∃ n,w'=w.drewN n:=by
 obtain⟨hb,b0,b1⟩:=hs.base;have h2:=hs.h2;have c1:=hM.used;have c2:=hM.half;have e1:IntKind.i64.wrap (M.used*M.half)=M.used*M.half:=Za _ (by omega);rw[←hb];clear hb hM hs
 go_enter Tryz.func133,Tryz.ntmps133
 go_wp2
 go_quiet (fail)
 go_wp2;go_ret;exact⟨rfl,_,rfl⟩
theorem A1u (a:Int) (w:World) (b o:Nat) (M:A7) (S:C8) (hM:G8 w b o M S) (hs:G2 M) :
  Calls Zf 101 #[.pointer (some ⟨b,o,none⟩),.int .i64 a] w fun e w'=>e=.returned (.bool (L4 M a))∧w'=w:=by
 have h1:=hs.h1;have h2:=hs.h2;have c2:=hM.half;clear hM hs;unfold L4
 go_enter Tryz.func101,Tryz.ntmps101
 go_wp2;go_ret;exact⟨rfl,rfl⟩
theorem B5k (a:Int) (h0:0≤a) (h1:a≤18446744073709551615) (w:World) (b o:Nat) (M:A7) (S:C8) (hM:G8 w b o M S) (hs:G2 M) :
  Calls Zf 110 #[.pointer (some ⟨b,o,none⟩),.int .u64 a] w fun e w'=>e=.returned (.bool (J5 M a))∧w'=w:=by
 by_cases hk:C7 a=0
 ·have k1:(C7 a==0)=true:=by simpa using hk
  by_cases hz:a=0
  ·have k2:(a != 0)=false:=by simpa using hz
   have e:J5 M a=false:=by simp[J5,k2]
   rw[e];clear hk hz
   go_enter Tryz.func110,Tryz.ntmps110
   go_wp2_with (first
    | (go_at_call 103;refine (O8 _ h0 h1 _).mono ?_;rintro e w' ⟨rfl,rfl⟩))
   go_ret;exact⟨rfl,rfl⟩
  ·have k2:(a != 0)=true:=by simpa using hz
   have e:J5 M a=!L4 M (C9 a):=by simp[J5,k1,k2]
   rw[e];clear hk hz
   go_enter Tryz.func110,Tryz.ntmps110
   go_wp2_with (first
    | (go_at_call 103;refine (O8 _ h0 h1 _).mono ?_;rintro e w' ⟨rfl,rfl⟩)
    | (go_at_call 104;refine (A0h _ h0 h1 _).mono ?_;rintro e w' ⟨rfl,rfl⟩)
    | (go_at_call 101;refine (A1u _ _ b o M S hM hs).mono ?_;rintro e w' ⟨rfl,rfl⟩))
   go_ret;exact⟨rfl,rfl⟩
 ·have k1:(C7 a==0)=false:=by simpa using hk
  have e:J5 M a=false:=by simp[J5,k1]
  rw[e];clear hk
  go_enter Tryz.func110,Tryz.ntmps110
  go_wp2_with (first
   | (go_at_call 103;refine (O8 _ h0 h1 _).mono ?_;rintro e w' ⟨rfl,rfl⟩))
  go_ret;exact⟨rfl,rfl⟩
theorem B3h (l:List Bool) (j:Nat) (h:j<l.length):(R7 l)[j]?=some (.bool (l.getD j false)):=by
 simp[R7,Zc,h]
theorem C8j (a:Int) (w:World) (b o:Nat) (M:A7) (S:C8) (hM:G8 w b o M S) (hs:G2 M) (ha:2*M.half≤a) (hb:a<2*M.half+M.old) :
  Calls Zf 143 #[.pointer (some ⟨b,o,none⟩),.int .i64 a] w fun e w'=>e=.returned (.bool (A0e M a))∧∃ n,w'=w.drewN n:=by
 obtain⟨i0,i1⟩:=hs.card a ha hb;have h1:=hs.h1;have h2:=hs.h2;have o2:=hs.o2;have cc1:=hs.c1;have cc2:=hs.c2;have c1:=hM.cards;have c2:=hM.half;have c3:=hM.card;unfold A0e;have hq:(a-2*M.half).tdiv M.card=(a-2*M.half)/M.card:=Int.tdiv_eq_ediv_of_nonneg (by omega);obtain⟨J,hJ⟩:∃ J:Nat,(a-2*M.half)/M.card=(J:Int):=⟨((a-2*M.half)/M.card).toNat,by omega⟩;rw[hJ] at hq i1 i0 ⊢;have hJl:J<M.cards.length:=by omega
 obtain⟨cb,co,hC,hcell⟩:=hM.rC J _ (B3h M.cards J hJl);rw[hC] at c1;rw[Int.toNat_natCast];have e0:IntKind.i64.wrap (2*M.half)=2*M.half:=Za _ (by omega);have e1:IntKind.i64.wrap (a-2*M.half)=a-2*M.half:=Za _ (by omega);have hcap:=hM.capC;have hcl:M.cards.length≤9223372036854775807:=hM.ok.lenC;have e2:IntKind.i64.wrap ((J:Nat):Int)=(J:Int):=Za _ (by omega);have hne:(M.card==0)=false:=by simp;omega
 have hjj:(J:Int)<(M.cards.length:Int):=by omega
 clear hJ hC hM hs
 go_enter Tryz.func143,Tryz.ntmps143
 go_wp2
 go_quiet (fail)
 go_wp2;go_ret;refine⟨?_,_,rfl⟩;simp[Zc,hJl]
theorem D3a:Zf.underlying 198=some (.map 3 4):=by kernel_rfl
theorem A8r:Zf.underlying 3=some (.int .i64):=by kernel_rfl
theorem B8z (w:World):(zeroValue 4).run Zf w=.ok (.bool false) w:=by kernel_rfl
theorem D1q {w:World} {bm:Nat} {st:List Int} (h:N9 w bm .i64 st) (a:Int) :
  (Instr.lookup 198 (.map (some bm)) (.int .i64 a) false).run Zf w=.ok (.bool (F8 st a)) w:=by
 obtain⟨es,hm,hg⟩:=h;rw[B4w D3a A8r (B8z w) hm a false,hg a];unfold F8
 cases st.contains a<;>rfl
theorem D1r {w:World} {bm:Nat} {st:List Int} (h:N9 w bm .i64 st) (a:Int) :
  ∃ w',(Instr.mapUpdate 198 (.map (some bm)) (.int .i64 a) (.bool true)).run Zf w=.ok () w'∧N9 w' bm .i64 (st++[a])∧But bm w w':=by
 obtain⟨es,hm,hg⟩:=h;obtain⟨w',h1,h2,h3⟩:=B2l (P:=Zf) D3a A8r hm a (.bool true);exact⟨w',h1,N9.put a hg h2,h3⟩
theorem D9z (a:Int) (h0:0≤a) (h1:a≤18446744073709551615) (bm:Nat) (st:List Int) (w:World) (hm:N9 w bm .i64 st) :
  Calls Zf 138 #[.int .u64 a,.map (some bm)] w fun e w'=>e=.returned (.bool (D0 st a))∧w'=w:=by
 have hr:0≤C7 a∧C7 a≤3:=by unfold C7;omega
 have hlk:=D1q hm (C9 a);clear hm;by_cases hk0:C7 a=0
 ·have k1:(C7 a==0)=true:=by simpa using hk0
  by_cases hz:a=0
  ·have k2:(a==0)=true:=by simpa using hz
   have e:D0 st a=true:=by simp[D0,hk0,k2]
   rw[e];clear hk0 hz hlk
   go_enter Tryz.func138,Tryz.ntmps138
   go_wp2_with (first
    | (go_at_call 103;refine (O8 _ h0 h1 _).mono ?_;rintro e w' ⟨rfl,rfl⟩))
   go_ret;exact⟨rfl,rfl⟩
  ·have k2:(a==0)=false:=by simpa using hz
   have e:D0 st a=F8 st (C9 a):=by simp[D0,hk0,k2]
   rw[e];clear hk0 hz
   go_enter Tryz.func138,Tryz.ntmps138
   go_wp2_with (first
    | (go_at_call 103;refine (O8 _ h0 h1 _).mono ?_;rintro e w' ⟨rfl,rfl⟩)
    | (go_at_call 104;refine (A0h _ h0 h1 _).mono ?_;rintro e w' ⟨rfl,rfl⟩))
   go_ret;exact⟨rfl,rfl⟩
 ·have k1:(C7 a==0)=false:=by simpa using hk0
  by_cases hk2:C7 a=2
  ·have k2:(C7 a==2)=true:=by simpa using hk2
   have e:D0 st a=decide (a/4≤2):=by simp[D0,hk2]
   rw[e];clear hk0 hk2 hlk
   go_enter Tryz.func138,Tryz.ntmps138
   go_wp2_with (first
    | (go_at_call 103;refine (O8 _ h0 h1 _).mono ?_;rintro e w' ⟨rfl,rfl⟩))
   go_ret;exact⟨rfl,rfl⟩
  ·have k2:(C7 a==2)=false:=by simpa using hk2
   by_cases hk3:C7 a=1
   ·have k3:(C7 a==1)=true:=by simpa using hk3
    have e:D0 st a=true:=by simp[D0,hk3]
    rw[e];clear hk0 hk2 hk3 hlk
    go_enter Tryz.func138,Tryz.ntmps138
    go_wp2_with (first
     | (go_at_call 103;refine (O8 _ h0 h1 _).mono ?_;rintro e w' ⟨rfl,rfl⟩))
    go_ret;exact⟨rfl,rfl⟩
   ·have k3:(C7 a==1)=false:=by simpa using hk3
    have e:D0 st a=false:=by simp[D0,hk0,hk2,hk3]
    rw[e];clear hk0 hk2 hk3 hlk
    go_enter Tryz.func138,Tryz.ntmps138
    go_wp2_with (first
     | (go_at_call 103;refine (O8 _ h0 h1 _).mono ?_;rintro e w' ⟨rfl,rfl⟩))
    go_ret;exact⟨rfl,rfl⟩
def A1g (a:Int):Value:=.agg #[.int .i64 (B3 a),.int .i64 (F4 a),.int .i64 (G5 a),.int .i64 (B5 a)]
def C3q (L:Nat→Prop) (w:World) (I:List Ob→World→Prop) (see:Ob→Bool) (v0:List Ob) (p:List Ob × Bool) (e:Ending) (w':World):Prop :=
 ∃ v,e=.returned (.bool (p.2&&p.1.all see))∧I (v0++v) w'∧((p.2&&p.1.all see)=true→v=p.1)∧A8 L w w'
theorem K2 (l:List Int) (j:Nat) (h:j<l.length):(C5 l)[j]?=some (.int .u64 (l.getD j 0)):=by
 simp[C5,Zc,h]
theorem O6 {M:A7} (h:M.Ok) (j:Nat):0≤A6 M.W j∧A6 M.W j≤18446744073709551615:=by
 unfold A6;rw[Zc];rcases Nat.lt_or_ge j M.W.length with g|g
 ·rw[Zd g];exact h.W _ (Ze g)
 ·rw[List.getElem?_eq_none g];simp
theorem C0c (w0:World) (b o:Nat) (M:A7) (S:C8) (hM:G8 w0 b o M S) (gb gs:Addr) (hG:A1o w0 gb) (hS:A0d w0 gs)
  (L:Nat→Prop) (g:Nat) (lb:Array Value) (eg:∀ args w,(callFunc g args).run Zf w=.ok (.enter g args) w) (see:Ob→Bool) (I:List Ob→World→Prop)
  (w:World) (hE:A0 w0 w) (hL:∀ k,L k→w0.heap.size≤k∧k<w.heap.size) (hX:∀ v w w',I v w→A0 w w'→I v w') (a to:Nat) (hto:to≤M.W.length) (hlen:M.W.length≤196608)
  (hC:∀ v x w',I v w'→A8 L w w'→A7r M.W a to x→Calls Zf g (#[.int .i64 (x.a:Int),A1g x.w]++lb) w' fun e w''=>e=.returned (.bool (see x))∧I (v++[x]) w''∧A8 L w' w'')
  (hat:a≤to) (v0:List Ob) (hI:I v0 w) :
  Calls Zf 92 #[.pointer (some ⟨b,o,none⟩),.int .i64 (a:Int),.int .i64 (to:Int),.func (.func g) #[] lb] w (C3q L w I see v0 (part M.W a to)):=by
 have HX:=Hz hX;have HC:=Hz hC;have HL:=Hz hL;have HE:=Hz hE;have HM:=Hz hM;have HG:=Hz hG;have HS:=Hz hS;have HI:Hid (I v0 w):=hI;clear hX hM hC hI hL hE hG hS
 go_enter Tryz.func92,Tryz.ntmps92
 go_wp2
 go_loopw [1] (fun i wr=>∃ (k:Nat) (v:List Ob),a≤k∧k≤to∧i=.int .i64 (k:Int)∧Hid (I (v0++v) wr)∧Hid (part M.W a to=(v++(part M.W k to).1,(part M.W k to).2))∧Hid (v.all see=true)∧Hid (A8 L w wr))
  (fun i _=>to-(intOf i).toNat)
 case atStart=>exact⟨a,[],Nat.le_refl _,hat,rfl,by rw[List.append_nil];exact HI,rfl,rfl,A8.refl _ _⟩
 case round =>
  obtain⟨k,v,hk1,hk2,rfl,hI,hP,hA,hK⟩:=hrel;by_cases hlt:k<to
  ·have hkW:k<M.W.length:=by omega
   have hEr:A0 w0 wr:=A0.keep HE.out hK.out fun i hi=>(HL.out i hi).1
   have hMr:G8 wr b o M S:=HM.out.ext hEr;have c_W:=hMr.W;obtain⟨wb,wo,hWa,hc⟩:=hMr.rW k _ (K2 M.W k hkW);rw[hWa] at c_W;have hcapW:=hMr.capW;have hgb:A1o wr gb:=hEr.cell_ HG.out;have hgs:A0d wr gs:=hEr.cell_ HS.out;obtain⟨hq0,hq1⟩:=O6 HM.out.ok k;change wr.cell? ⟨wb,wo+k,none⟩=some (.int .u64 (A6 M.W k)) at hc;have HER:=Hz hEr;clear hMr hWa hEr;have hsz:B5 (A6 M.W k)≤281474976710655∧0≤B5 (A6 M.W k):=by unfold B5;omega
   obtain⟨hsz1,hsz0⟩:=hsz
   cases hd:P7 (A6 M.W k) with
   | false =>
    have HB:=Hz (B0u M.W k to hlt (by rw[hd];rfl))
    go_wp2_with (go_at_call 56;refine (D2h _ hq0 hq1 hd _ gb gs hgb hgs).mono ?_;rintro e w1 ⟨rfl,hx⟩)
    go_ret;refine⟨v,?_,?_,fun h=>?_,?_⟩
    ·rw[hP.out,HB.out];rfl
    ·refine HX.out _ _ _ hI.out ?_
     repeat (first|exact hx|exact A0.refl _|(refine A0.set_ ?_ (by simp;omega) _)|(refine A0.alloc_ ?_ _)|(refine A0.drew_ ?_)|(refine A0.drewN_ ?_ _))
    ·rw[hP.out,HB.out] at h;cases h
    ·refine hK.out.ext_ ?_
     repeat (first|exact hx|exact A0.refl _|(refine A0.set_ ?_ (by simp;omega) _)|(refine A0.alloc_ ?_ _)|(refine A0.drew_ ?_)|(refine A0.drewN_ ?_ _))
   | true =>
    by_cases hfit:(k:Int)+1+B5 (A6 M.W k)≤(to:Int)
    ·have HIN:Hid (A7r M.W a to ⟨k,A6 M.W k⟩):=⟨rfl,hd,hk1,by show k+1+(B5 (A6 M.W k)).toNat≤to;omega⟩;have HB:=Hz (B4s M.W k to hd (by omega))
     cases hsee:see ⟨k,A6 M.W k⟩ with
     | false =>
      have HSEE:=Hz hsee
      go_wp2_with (first
       | (go_at_call 56;refine (A3d _ hq0 hq1 hd _).mono ?_;rintro e w1 ⟨rfl,hx⟩;have hxs:=hx.size))
      refine (HC.out (v0++v) ⟨k,A6 M.W k⟩ _ ?_ ?_ HIN.out).mono ?_
      ·refine HX.out _ _ _ hI.out ?_
       repeat (first|exact hx|exact A0.refl _|(refine A0.set_ ?_ (by simp;omega) _)|(refine A0.alloc_ ?_ _)|(refine A0.drew_ ?_)|(refine A0.drewN_ ?_ _))
      ·refine hK.out.ext_ ?_
       repeat (first|exact hx|exact A0.refl _|(refine A0.set_ ?_ (by simp;omega) _)|(refine A0.alloc_ ?_ _)|(refine A0.drew_ ?_)|(refine A0.drewN_ ?_ _))
      rintro e w2 ⟨he,hI2,hK2⟩;rw[hsee] at he;subst he;have HK2:=Hz hK2;clear hK2 hsee;go_wp2;go_ret;refine⟨v++[⟨k,A6 M.W k⟩],?_,?_,fun h=>?_,?_⟩
      ·rw[hP.out,HB.out];simp[HSEE.out]
      ·rw[←List.append_assoc];exact hI2
      ·rw[hP.out,HB.out] at h;simp[HSEE.out] at h
      ·refine A8.trans (hK.out.ext_ ?_) HK2.out
       repeat (first|exact hx|exact A0.refl _|(refine A0.set_ ?_ (by simp;omega) _)|(refine A0.alloc_ ?_ _)|(refine A0.drew_ ?_)|(refine A0.drewN_ ?_ _))
     | true =>
      have HSEE:=Hz hsee
      go_wp2_with (first
       | (go_at_call 56;refine (A3d _ hq0 hq1 hd _).mono ?_;rintro e w1 ⟨rfl,hx⟩;have hxs:=hx.size))
      refine (HC.out (v0++v) ⟨k,A6 M.W k⟩ _ ?_ ?_ HIN.out).mono ?_
      ·refine HX.out _ _ _ hI.out ?_
       repeat (first|exact hx|exact A0.refl _|(refine A0.set_ ?_ (by simp;omega) _)|(refine A0.alloc_ ?_ _)|(refine A0.drew_ ?_)|(refine A0.drewN_ ?_ _))
      ·refine hK.out.ext_ ?_
       repeat (first|exact hx|exact A0.refl _|(refine A0.set_ ?_ (by simp;omega) _)|(refine A0.alloc_ ?_ _)|(refine A0.drew_ ?_)|(refine A0.drewN_ ?_ _))
      rintro e w2 ⟨he,hI2,hK2⟩;rw[hsee] at he;subst he;have hq3:w2.cell? ⟨w1.heap.size,3,none⟩=some (.int .i64 (B5 (A6 M.W k))):=hK2.cell (fun h=>by have h1:=(HL.out _ h).2;have h2:=hK.out.size;simp at h1;omega) (by simp[go_sem]);have HK2:=Hz hK2;have HI2:=Hz hI2;clear hK2 hsee hI2;go_wp2
      go_roundw
      case rel =>
       refine⟨k+1+(B5 (A6 M.W k)).toNat,v++[⟨k,A6 M.W k⟩],by omega,by omega,?_,?_,?_,?_,?_⟩
       ·go_num
       ·rw[←List.append_assoc];exact HI2.out
       ·show part M.W a to=_;rw[hP.out,HB.out];simp
       ·show (v++[_]).all see=true;simp[hA.out,HSEE.out]
       ·refine A8.trans (hK.out.ext_ ?_) HK2.out
        repeat (first|exact hx|exact A0.refl _|(refine A0.set_ ?_ (by simp;omega) _)|(refine A0.alloc_ ?_ _)|(refine A0.drew_ ?_)|(refine A0.drewN_ ?_ _))
      case measure=>simp[intOf];omega
    ·have HB:=Hz (B0u M.W k to hlt (by rw[hd];simp;omega))
     go_wp2_with (go_at_call 56;refine (A3d _ hq0 hq1 hd _).mono ?_;rintro e w1 ⟨rfl,hx⟩;have hxs:=hx.size)
     go_ret;refine⟨v,?_,?_,fun h=>?_,?_⟩
     ·rw[hP.out,HB.out];rfl
     ·refine HX.out _ _ _ hI.out ?_
      repeat (first|exact hx|exact A0.refl _|(refine A0.set_ ?_ (by simp;omega) _)|(refine A0.alloc_ ?_ _)|(refine A0.drew_ ?_)|(refine A0.drewN_ ?_ _))
     ·rw[hP.out,HB.out] at h;cases h
     ·refine hK.out.ext_ ?_
      repeat (first|exact hx|exact A0.refl _|(refine A0.set_ ?_ (by simp;omega) _)|(refine A0.alloc_ ?_ _)|(refine A0.drew_ ?_)|(refine A0.drewN_ ?_ _))
  ·have HD:=Hz (B4r M.W k to (by omega));go_wp2;go_ret;refine⟨v,?_,hI.out,fun _=>?_,hK.out⟩
   ·rw[hP.out,HD.out];simp[hA.out]
   ·rw[hP.out,HD.out];simp
def B9g (w:World) (g:Nat) (lb:Array Value) (p:Int→Bool):Prop :=
 ∀ (W:World) (x:Int),A0 w W→0≤x→x≤18446744073709551615→Calls Zf g (#[.int .u64 x]++lb) W fun e w'=>e=.returned (.bool (p x))∧A0 w w'
def D3s (w:World) (p:Int→Bool) (zs:List Int) (e:Ending) (w':World):Prop :=
 ∃ n:Int,e=.returned (.int .i64 n)∧decide (0≤n)=zs.any p∧A0 w w'
theorem E3l (p:Int→Bool) (g:Nat) (lb:Array Value) (eg:∀ args w,(callFunc g args).run Zf w=.ok (.enter g args) w) (a:Option Addr) (c:Nat) (zs:List Int) (w:World)
  (hz:zs.length≤9223372036854775807) (hR:F7 w a (C5 zs)) (hb:∀ x∈zs,0≤x∧x≤18446744073709551615) (hp:B9g w g lb p) :
  Calls Zf 160 #[.slice a zs.length c,.func (.func g) #[] lb] w (D3s w p zs):=by
 have HP:=Hz hp;have HR:=Hz hR;have HB:=Hz hb;clear hp hR hb
 go_enter Tryz.func160,Tryz.ntmps160
 go_wp2
 go_loopw [5,8] (fun _ i wr=>∃ k:Nat,k≤zs.length∧i=.int .i64 (k:Int)∧Hid (A0 w wr)∧Hid (∀ j,j<k→p (zs.getD j 0)=false))
  (fun _ i _=>zs.length-(intOf i).toNat)
 case atStart=>exact⟨0,Nat.zero_le _,rfl,A0.refl w,fun j hj=>absurd hj (Nat.not_lt_zero _)⟩
 case round =>
  obtain⟨k,hk,rfl,hE,hA⟩:=hrel;by_cases hlt:k<zs.length
  ·obtain⟨b,off,rfl,hc⟩:=HR.out k _ (K2 zs k hlt)
   replace hc:=hE.out.cell_ hc
   have hin:0≤zs.getD k 0∧zs.getD k 0≤18446744073709551615:=by
    rw[Zc,Zd hlt];exact HB.out _ (Ze hlt)
   have hcall:=HP.out wr (zs.getD k 0) hE.out hin.1 hin.2;have hltz:(k:Int)<(zs.length:Int):=by omega
   generalize hy:zs.getD k 0=y at hc hcall hin;have HY:=Hz hy;clear hy
   cases hq:p y with
   | true =>
    have HQ:=Hz hq;rw[hq] at hcall;clear hq;go_wp2;refine hcall.mono ?_;rintro e w' ⟨rfl,hb'⟩;have HB':=Hz hb';clear hb';go_wp2;go_ret;refine⟨_,rfl,?_,HB'.out⟩;have:zs.any p=true:=List.any_eq_true.2 ⟨zs[k],Ze hlt,by
     have:=HY.out;rw[Zc,Zd hlt] at this;simp at this;rw[this];exact HQ.out⟩
    rw[this];simp
   | false =>
    have HQ:=Hz hq;rw[hq] at hcall;clear hq;go_wp2;refine hcall.mono ?_;rintro e w' ⟨rfl,hb'⟩;have HB':=Hz hb';clear hb';go_wp2
    go_roundw
    case rel=>exact⟨k+1,by omega,by go_num,HB'.out,fun j hj=>by
     by_cases e:j=k
     ·subst e;rw[HY.out];exact HQ.out
     ·exact hA.out j (by omega)⟩
    case measure=>simp[intOf];omega
  ·have hltz:¬(k:Int)<(zs.length:Int):=by omega
   go_wp2;go_ret;refine⟨_,rfl,?_,hE.out⟩;have:zs.any p=false:=by
    rw[List.any_eq_false];intro x hx;obtain⟨j,hj,rfl⟩:=List.mem_iff_getElem.1 hx;have:=hA.out j (by omega);rw[Zc,Zd hj] at this;simpa using this
   rw[this];rfl
theorem D8i (p:Int→Bool) (g:Nat) (lb:Array Value) (eg:∀ args w,(callFunc g args).run Zf w=.ok (.enter g args) w) (a:Option Addr) (c:Nat) (zs:List Int) (w:World)
  (hz:zs.length≤9223372036854775807) (hR:F7 w a (C5 zs)) (hb:∀ x∈zs,0≤x∧x≤18446744073709551615) (hp:B9g w g lb p) :
  Calls Zf 140 #[.slice a zs.length c,.func (.func g) #[] lb] w fun e w'=>e=.returned (.bool (zs.any p))∧A0 w w':=by
 go_enter Tryz.func140,Tryz.ntmps140
 go_wp2_with (go_at_call 160;refine (E3l p g lb eg a c zs _ hz hR hb hp).mono ?_;rintro e w' ⟨n,rfl,hn,hq⟩)
 go_ret;exact⟨rfl,hq⟩
def L3 (M:A7) (x:Ob):Bool:=(G5 x.w==0)&&((F4 x.w==0)||!L4 M (x.a:Int))
theorem D6h (args:Array Value) (w:World):(callFunc 136 args).run Zf w=.ok (.enter 136 args) w :=
 enters_of Tryz.func136 (by kernel_rfl) rfl args w
theorem D6j (args:Array Value) (w:World):(callFunc 141 args).run Zf w=.ok (.enter 141 args) w :=
 enters_of Tryz.func141 (by kernel_rfl) rfl args w
theorem A8x (a:Int) (h0:0≤a) (h1:a≤18446744073709551615) (bm b3:Nat) (st:List Int) (w:World) (hm:N9 w bm .i64 st) (h3:w.cell? ⟨b3,0,none⟩=some (.map (some bm))) :
  Calls Zf 137 #[.int .u64 a,.pointer (some ⟨b3,0,none⟩)] w fun e w'=>e=.returned (.bool (D0 st a))∧w'=w:=by
 go_enter Tryz.func137,Tryz.ntmps137
 go_wp2_with (go_at_call 138;refine (D9z a h0 h1 bm st _ hm).mono ?_;rintro e w' ⟨rfl,rfl⟩)
 go_ret;exact⟨rfl,rfl⟩
theorem D6i (a:Int) (h0:0≤a) (h1:a≤18446744073709551615) (bm b3 b4:Nat) (st:List Int) (w:World) (hm:N9 w bm .i64 st) (h3:w.cell? ⟨b3,0,none⟩=some (.map (some bm)))
  (h4:w.cell? ⟨b4,0,none⟩=some (.func (.func 137) #[] #[.pointer (some ⟨b3,0,none⟩)])) :
  Calls Zf 141 #[.int .u64 a,.pointer (some ⟨b4,0,none⟩)] w fun e w'=>e=.returned (.bool (!D0 st a))∧w'=w:=by
 go_enter Tryz.func141,Tryz.ntmps141
 go_wp2_with (go_at_call 137;refine (A8x a h0 h1 bm b3 st _ hm h3).mono ?_;rintro e w' ⟨rfl,rfl⟩)
 go_ret;exact⟨rfl,rfl⟩
def J6 (st:List Int) (zs:List Int):Bool:=zs.all (D0 st)
theorem E0a (st:List Int) (zs:List Int):(!(zs.any fun x=>!D0 st x))=J6 st zs:=by
 unfold J6
 induction zs with
 | nil=>rfl
 | cons z zs ih=>simp only[List.any_cons,List.all_cons,←ih];cases D0 st z<;>simp
theorem A8y (a:Option Addr) (c:Nat) (zs:List Int) (hz:zs.length≤9223372036854775807) (hb:∀ x∈zs,0≤x∧x≤18446744073709551615) (bm b3 b4:Nat) (st:List Int) (w:World)
  (hR:F7 w a (C5 zs)) (hm:N9 w bm .i64 st) (h3:w.cell? ⟨b3,0,none⟩=some (.map (some bm)))
  (h4:w.cell? ⟨b4,0,none⟩=some (.func (.func 137) #[] #[.pointer (some ⟨b3,0,none⟩)])) :
  Calls Zf 139 #[.slice a zs.length c,.pointer (some ⟨b4,0,none⟩)] w fun e w'=>e=.returned (.bool (J6 st zs))∧A0 w w':=by
 have hp:B9g w 141 #[.pointer (some ⟨b4,0,none⟩)] (fun x=>!D0 st x):=fun W x hE q0 q1 =>
  (D6i x q0 q1 bm b3 b4 st W (hm.ext hE) (hE.cell_ h3) (hE.cell_ h4)).mono fun e w' ⟨he,hw⟩=>⟨he,by rw[hw];exact hE⟩
 have HP:=Hz hp;have HB:=Hz hb;have HR:=Hz hR;rw[←E0a];clear hp hm h3 h4 hb hR
 go_enter Tryz.func139,Tryz.ntmps139
 go_wp2_with (go_at_call 140;refine (D8i _ _ _ D6j a c zs _ hz HR.out HB.out HP.out).mono ?_;rintro e w' ⟨rfl,hq⟩)
 go_ret;exact⟨rfl,hq⟩
theorem D6g (x:Ob) (b o bm b3 b1:Nat) (M:A7) (S:C8) (hs:G2 M) (st:List Int) (w0 w:World) (hE:A0 w0 w) (hM:G8 w0 b o M S) (hm:N9 w bm .i64 st) (hbm:w0.heap.size≤bm)
  (hne3:b3≠bm) (hne1:b1≠bm) (h3:w.cell? ⟨b3,0,none⟩=some (.map (some bm))) (h1:w.cell? ⟨b1,0,none⟩=some (.pointer (some ⟨b,o,none⟩))) :
  Calls Zf 136 #[.int .i64 (x.a:Int),A1g x.w,.pointer (some ⟨b3,0,none⟩),.pointer (some ⟨b1,0,none⟩)] w fun e w' =>
   e=.returned (.bool (L3 M x))∧N9 w' bm .i64 (st++[(x.a:Int)])∧A8 (·=bm) w w':=by
 have hlt3:=B9 h3;have hlt1:=B9 h1;have hltm:=hm.lt;simp only at hlt3 hlt1;obtain⟨w1,hrun,hm2,hbut⟩:=D1r (hm.ext ((A0.refl w).alloc_ (.cells #[.int .i64 (B3 x.w),.int .i64 (F4 x.w),.int .i64 (G5 x.w),.int .i64 (B5 x.w)] 92))) (x.a:Int);have hk1:=A8.of_but hbut;have q1:w1.cell? ⟨w.heap.size,1,none⟩=some (.int .i64 (F4 x.w)):=hk1.cell (by simp;omega) (by simp[go_sem]);have q2:w1.cell? ⟨w.heap.size,2,none⟩=some (.int .i64 (G5 x.w)):=hk1.cell (by simp;omega) (by simp[go_sem]);have q3:w1.cell? ⟨b1,0,none⟩=some (.pointer (some ⟨b,o,none⟩)):=hk1.cell hne1 (((A0.refl w).alloc_ _).cell_ h1);have hkk:A8 (·=bm) w w1:=((A8.refl _ w).alloc_ _).trans hk1;have hM1:G8 w1 b o M S:=hM.ext (A0.keep hE hkk fun i hi=>by omega);have HM2:=Hz hm2;have HK:=Hz hkk;have HM1:=Hz hM1;clear hm hm2 hbut hk1 hkk hM1 hM hE;unfold A1g
 cases m0:(G5 x.w==0) with
 | false =>
  have e:L3 M x=false:=by simp[L3,m0]
  rw[e]
  go_enter Tryz.func136,Tryz.ntmps136
  go_wp2;go_ret;exact⟨rfl,HM2.out,HK.out⟩
 | true =>
  cases a0:(F4 x.w==0) with
  | true =>
   have e:L3 M x=true:=by simp[L3,m0,a0]
   rw[e]
   go_enter Tryz.func136,Tryz.ntmps136
   go_wp2;go_ret;exact⟨rfl,HM2.out,HK.out⟩
  | false =>
   have e:L3 M x=!L4 M (x.a:Int):=by simp[L3,m0,a0]
   rw[e]
   go_enter Tryz.func136,Tryz.ntmps136
   go_wp2_with (go_at_call 101;refine (A1u _ _ b o M S HM1.out hs).mono ?_;rintro e w' ⟨rfl,rfl⟩)
   go_ret;exact⟨rfl,HM2.out,HK.out⟩
end Go.Proofs.YtelhoppfidibiaaGreatDoor
