/- append of whatever slice onto a row of the call's own: as a step of a region that draws, and at a plain region's list. Over any program. -/
import Derived.Test.YtelhoppfidibiaaGreatDoorJTa03
import Derived.Maps.AppendAt
import Derived.Laws.AppendOwnNone
import Derived.Deep.RegionLaw
import Derived.ArgAppend
import Derived.IntWalk
set_option linter.unusedSimpArgs false
set_option linter.unusedVariables false
set_option maxHeartbeats 2000000
set_option maxRecDepth 100000
namespace Go.Proofs.YtelhoppfidibiaaGreatDoor
open Go.RowKit
section
variable {P:Program} {w:World}
theorem run_append_src (t ty:TypeId) (base:Nat) (e:TypeId) (i:TypeInfo) (z:Value) (size bytes:Nat) (ht:P.underlying t=some (.slice e)) (hi:P.info? e=some i) (hz:i.zero=some z)
  (hsize:i.size=size) (hby:i.bytes=bytes) (hzs:z.cells.size=size) (hsz:0<size)
  (v:Value) (n:Nat) (xs:List Value) (hown:w.ownsRow base e size v n xs)
  (ad:Option Addr) (m c:Nat) (news:List Value) (hnil:ad=none→c=0) (hmc:m≤c) (hl:news.length=m*size) (hR:RSl w ad news) (h1:∀ u∈news,u.oneCell'=true)
  (h63:n+m≤maxLen) (hbytes:(n+m)*bytes≤140737488355328) (hbase:base≤w.heap.size) :
  ∃ a' c' w',(Builtin.append_ #[t,t] ty #[v,.slice ad m c]).run P w=.ok (.slice a' (n+m) c') w' ∧
   w'.ownsRow base e size (.slice a' (n+m) c') (n+m) (xs++news)∧w.grownBy w' v.ownBlock∧((Value.slice a' (n+m) c').ownBlock=v.ownBlock∨(Value.slice a' (n+m) c').ownBlock=some w.heap.size):=by
 cases ad with
 | none =>
  obtain rfl:=hnil rfl
  obtain rfl:m=0:=by omega
  obtain rfl:news=[]:=List.eq_nil_of_length_eq_zero (by simpa using hl)
  have hr:=run_append_owned_none (P:=P) (w:=w) base t ty e i size ht hi v n xs hown
  have hv:∃ a' c',v=.slice a' n c':=by
   rcases hown.2 with⟨rfl,rfl⟩|⟨g,cap,cur,rfl,_⟩
   ·exact⟨_,_,rfl⟩
   ·exact⟨_,_,rfl⟩
  obtain⟨a',c',rfl⟩:=hv
  exact⟨a',c',w,hr,by simpa using hown,⟨rfl,rfl,rfl,Nat.le_refl _,fun _ _ _=>rfl⟩,Or.inl rfl⟩
 | some p =>
  have hnews:∀ j u,news[j]?=some u→w.cell? (p.add j)=some u:=fun j u hu=>by
   obtain⟨b,off,hp,hc⟩:=hR j u hu
   injection hp with hp
   subst hp
   have e:(⟨b,off,none⟩:Addr).add j=⟨b,off+j,none⟩:=by unfold Addr.add;split<;>simp_all
   rw[e];exact hc
  obtain⟨v',w',hr,h2,h3,_,h5⟩:=run_append_own_at (P:=P) w base t ty e i z size bytes ht hi hz hsize hby hzs hsz v n xs hown p m c news hl hnews h1 h63 hbytes hbase
  have hv:∃ a' c',v'=.slice a' (n+m) c':=by
   rcases h2.2 with⟨rfl,h0⟩|⟨g,cap,cur,rfl,_⟩
   ·rw[h0];exact⟨_,_,rfl⟩
   ·exact⟨_,_,rfl⟩
  obtain⟨a',c',rfl⟩:=hv
  exact⟨a',c',w',hr,h2,h3,h5⟩
theorem wp_append_src {o:Oper} {a:Act} {K:Act→World→Prop} {Q:Exit→Act→World→Prop} (s x:Operand) (t:TypeId)
  (ho:o.op=.call {callee:=.builtin .append,args:=#[s,x],argTypes:=#[t,t]})
  (base:Nat) (e:TypeId) (i:TypeInfo) (z:Value) (size bytes:Nat) (ht:P.underlying t=some (.slice e)) (hi:P.info? e=some i) (hz:i.zero=some z)
  (hsize:i.size=size) (hby:i.bytes=bytes) (hzs:z.cells.size=size) (hsz:0<size)
  (v:Value) (n:Nat) (xs:List Value) (hs:a.eval s=v) (hown:w.ownsRow base e size v n xs)
  (ad:Option Addr) (m c:Nat) (news:List Value) (hx:a.eval x=.slice ad m c) (hnil:ad=none→c=0) (hmc:m≤c) (hl:news.length=m*size) (hR:RSl w ad news) (h1:∀ u∈news,u.oneCell'=true)
  (h63:n+m≤maxLen) (hbytes:(n+m)*bytes≤140737488355328) (hbase:base≤w.heap.size)
  (h:∀ a' c' w',w'.ownsRow base e size (.slice a' (n+m) c') (n+m) (xs++news)→w.grownBy w' v.ownBlock→((Value.slice a' (n+m) c').ownBlock=v.ownBlock∨(Value.slice a' (n+m) c').ownBlock=some w.heap.size) →
   K (a.put o.dst (.slice a' (n+m) c')) w'):o.wp P a w K Q:=by
 obtain⟨a',c',w',hr,h2,h3,h4⟩:=run_append_src (P:=P) (w:=w) t o.type base e i z size bytes ht hi hz hsize hby hzs hsz v n xs hown ad m c news hnil hmc hl hR h1 h63 hbytes hbase
 unfold Oper.wp execOp
 simp only[ho,resolve,invoke,builtin,Sem.run_bind,Sem.run_pure,Result.andThen_ok,List.map_toArray,List.map_cons,List.map_nil,hs,hx,hr]
 exact h a' c' w' h2 h3 h4
theorem wpList_append_src {ops:Array Oper} {rest:List Oper} {o:Oper} {a:Act} {Q:Exit→Act→World→Prop} (hgd:o.guard=none) (s x:Operand) (t:TypeId)
  (ho:o.op=.call {callee:=.builtin .append,args:=#[s,x],argTypes:=#[t,t]})
  (base:Nat) (e:TypeId) (i:TypeInfo) (z:Value) (size bytes:Nat) (ht:P.underlying t=some (.slice e)) (hi:P.info? e=some i) (hz:i.zero=some z)
  (hsize:i.size=size) (hby:i.bytes=bytes) (hzs:z.cells.size=size) (hsz:0<size)
  (v:Value) (n:Nat) (xs:List Value) (hs:a.eval s=v) (hown:w.ownsRow base e size v n xs)
  (ad:Option Addr) (m c:Nat) (news:List Value) (hx:a.eval x=.slice ad m c) (hnil:ad=none→c=0) (hmc:m≤c) (hl:news.length=m*size) (hR:RSl w ad news) (h1:∀ u∈news,u.oneCell'=true)
  (h63:n+m≤maxLen) (hbytes:(n+m)*bytes≤140737488355328) (hbase:base≤w.heap.size)
  (h:∀ a' c' w',w'.ownsRow base e size (.slice a' (n+m) c') (n+m) (xs++news)→w.grownBy w' v.ownBlock→((Value.slice a' (n+m) c').ownBlock=v.ownBlock∨(Value.slice a' (n+m) c').ownBlock=some w.heap.size) →
   wpList P ops Q rest (a.put o.dst (.slice a' (n+m) c')) w'):wpList P ops Q (o::rest) a w :=
 wpList_plain hgd fun _ hK=>wp_append_src s x t ho base e i z size bytes ht hi hz hsize hby hzs hsz v n xs hs hown ad m c news hx hnil hmc hl hR h1 h63 hbytes hbase fun a' c' w' h2 h3 h4=>hK _ _ (h a' c' w' h2 h3 h4)
theorem step_append_src {ops:Array Oper} {o:Oper} {a:Act} {K:Act→World→Prop} {Q:Exit→Act→World→Prop} {E:Prop} (hgd:o.guard=none) (s x:Operand) (t:TypeId)
  (ho:o.op=.call {callee:=.builtin .append,args:=#[s,x],argTypes:=#[t,t]})
  (base:Nat) (e:TypeId) (i:TypeInfo) (z:Value) (size bytes:Nat) (ht:P.underlying t=some (.slice e)) (hi:P.info? e=some i) (hz:i.zero=some z)
  (hsize:i.size=size) (hby:i.bytes=bytes) (hzs:z.cells.size=size) (hsz:0<size)
  (v:Value) (n:Nat) (xs:List Value) (hs:a.eval s=v) (hown:w.ownsRow base e size v n xs)
  (ad:Option Addr) (m c:Nat) (news:List Value) (hx:a.eval x=.slice ad m c) (hnil:ad=none→c=0) (hmc:m≤c) (hl:news.length=m*size) (hR:RSl w ad news) (h1:∀ u∈news,u.oneCell'=true)
  (h63:n+m≤maxLen) (hbytes:(n+m)*bytes≤140737488355328) (hbase:base≤w.heap.size)
  (h:∀ a' c' w',w'.ownsRow base e size (.slice a' (n+m) c') (n+m) (xs++news)→w.grownBy w' v.ownBlock→((Value.slice a' (n+m) c').ownBlock=v.ownBlock∨(Value.slice a' (n+m) c').ownBlock=some w.heap.size) →
   K (a.put o.dst (.slice a' (n+m) c')) w'):if Region.wanted o (yielded ops a.tmps)=true then Oper.wp P o a w K Q else E:=by
 have hw:Region.wanted o (yielded ops a.tmps)=true:=by simp[Region.wanted,hgd]
 rw[if_pos hw]
 exact wp_append_src s x t ho base e i z size bytes ht hi hz hsize hby hzs hsz v n xs hs hown ad m c news hx hnil hmc hl hR h1 h63 hbytes hbase h
end
def Tail (w:World) (B:Nat) (e:TypeId) (v:Value) (xs:List Value):Prop :=
 (v=.slice none 0 0∧xs=[]) ∨
 ∃ g off cap cur,v=.slice (some ⟨g,off,none⟩) xs.length cap∧B≤g∧w.heap[g]?=some (.cells cur e (0,0))∧xs.length≤cap∧cap≤maxLen∧off+cap≤cur.size∧(cur.toList.drop off).take xs.length=xs
theorem Tail.nil (w:World) (B:Nat) (e:TypeId):Tail w B e (.slice none 0 0) []:=Or.inl ⟨rfl,rfl⟩
theorem Tail.of_own {w:World} {B:Nat} {e:TypeId} {v:Value} {n:Nat} {xs:List Value} (h:w.ownsRow B e 1 v n xs):Tail w B e v xs:=by
 obtain⟨h1,h2⟩:=h
 rcases h2 with⟨rfl,rfl⟩|⟨g,cap,cur,rfl,q1,q2,q3,q4,q5,q6⟩
 ·exact Or.inl ⟨rfl,List.eq_nil_of_length_eq_zero (by simpa using h1)⟩
 ·obtain rfl:xs.length=n:=by omega
  exact Or.inr ⟨g,0,cap,cur,rfl,q1,q2,q3,q4,by omega,by simpa using q6⟩
theorem Tail.lt {w:World} {B:Nat} {e:TypeId} {v:Value} {xs:List Value} (h:Tail w B e v xs) {k:Nat} (hk:v.ownBlock=some k):B≤k∧k<w.heap.size:=by
 rcases h with⟨rfl,_⟩|⟨g,off,cap,cur,rfl,q1,q2,_⟩
 ·simp[Value.ownBlock] at hk
 ·simp[Value.ownBlock] at hk
  subst hk
  exact⟨q1,lt_of_block q2⟩
theorem Tail.kept {w w':World} {B:Nat} {e:TypeId} {v:Value} {xs:List Value} (h:Tail w B e v xs) (hk:∀ k,v.ownBlock=some k→w'.heap[k]?=w.heap[k]?):Tail w' B e v xs:=by
 rcases h with h|⟨g,off,cap,cur,rfl,q1,q2,q⟩
 ·exact Or.inl h
 ·exact Or.inr ⟨g,off,cap,cur,rfl,q1,by rw[hk g rfl];exact q2,q⟩
theorem Tail.keep {L:Nat→Prop} {w w':World} {B:Nat} {e:TypeId} {v:Value} {xs:List Value} (h:Tail w B e v xs) (k:Keep L w w') (hl:∀ g,v.ownBlock=some g→¬L g):Tail w' B e v xs :=
 h.kept fun g hg=>k.block g (h.lt hg).2 (hl g hg)
theorem Tail.ext {w w':World} {B:Nat} {e:TypeId} {v:Value} {xs:List Value} (h:Tail w B e v xs) (k:Ext w w'):Tail w' B e v xs :=
 h.kept fun g hg=>Below.block k g (h.lt hg).2
theorem Tail.slice {w:World} {B:Nat} {e:TypeId} {v:Value} {xs:List Value} (h:Tail w B e v xs):∃ a n c,v=.slice a n c:=by
 rcases h with⟨rfl,_⟩|⟨g,off,cap,cur,rfl,_⟩
 ·exact⟨_,_,_,rfl⟩
 ·exact⟨_,_,_,rfl⟩
theorem Tail.head {w:World} {B:Nat} {e:TypeId} {v x:Value} {xs:List Value} (h:Tail w B e v (x::xs)) :
  ∃ g off cap,v=.slice (some ⟨g,off,none⟩) (xs.length+1) (cap+1)∧w.cell? ⟨g,off,none⟩=some x∧xs.length≤cap∧Tail w B e (.slice (some ⟨g,off+1,none⟩) xs.length cap) xs:=by
 rcases h with⟨_,h⟩|⟨g,off,cap,cur,rfl,q1,q2,q3,q4,q5,q6⟩
 ·cases h
 ·simp only[List.length_cons] at q3 q6
  obtain⟨c,rfl⟩:∃ c,cap=c+1:=⟨cap-1,by omega⟩
  have hlen:off<cur.toList.length:=by rw[Array.length_toList];omega
  rw[List.drop_eq_getElem_cons hlen] at q6
  simp only[List.take_succ_cons,List.cons.injEq] at q6
  refine⟨g,off,c,rfl,?_,by omega,Or.inr ⟨g,off+1,c,cur,rfl,q1,q2,by omega,by omega,by omega,q6.2⟩⟩
  rw[cell_of_row w g off cur e (0,0) q2,←q6.1]
  simp at hlen
  simp[hlen]
theorem Tail.rest {P:Program} {t:TypeId} {w:World} {B:Nat} {e:TypeId} {v x:Value} {xs:List Value} (h:Tail w B e v (x::xs)) (ht:P.underlying t=some (.slice e)) (hz:∀ w,(sizeOf e).run P w=.ok 1 w) :
  ∃ g off cap A,v=.slice (some ⟨g,off,none⟩) (xs.length+1) (cap+1)∧w.cell? ⟨g,off,none⟩=some x∧(∀ w':World,(Instr.slice t (.slice (some ⟨g,off,none⟩) (xs.length+1) (cap+1)) (some (.int .i64 1)) none none).run P w'=.ok (.slice A xs.length cap) w') ∧
   Tail w B e (.slice A xs.length cap) xs∧(Value.slice A xs.length cap).ownBlock=some g:=by
 have hb:=h
 obtain⟨g,off,cap,hv,hc,hl,hr⟩:=h.head
 have he:P.elem t=e:=by simp[Program.elem,ht]
 have ht':P.underlying t=some (.slice (P.elem t)):=by rw[he];exact ht
 refine⟨g,off,cap,if cap=0 then some ⟨g,off,none⟩ else some ⟨g,off+1,none⟩,hv,hc,fun w'=>?_,?_,?_⟩
 ·rw[run_slice_l w' t (some ⟨g,off,none⟩) (xs.length+1) (cap+1) ht' .i64 1 (by omega) (by omega),he,hz]
  simp[Result.andThen,sliced,Addr.add]
 ·split
  ·rename_i h0
   subst h0
   obtain rfl:xs=[]:=List.eq_nil_of_length_eq_zero (by omega)
   rcases hb with⟨_,hb⟩|⟨g',off',cap',cur,hv',q1,q2,q3,q4,q5,q6⟩
   ·cases hb
   ·rw[hv] at hv'
    injection hv' with e1 _ e3
    injection e1 with e1
    injection e1 with e1 e2
    subst e1 e2
    exact Or.inr ⟨g,off,0,cur,rfl,q1,q2,by simp,by omega,by omega,by simp⟩
  ·exact hr
 ·split<;>simp[Value.ownBlock]
section
variable {P:Program} {w:World}
theorem run_append_tail (t ty:TypeId) (B:Nat) (e:TypeId) (i:TypeInfo) (z:Value) (bytes:Nat) (ht:P.underlying t=some (.slice e)) (hi:P.info? e=some i) (hz:i.zero=some z)
  (hsize:i.size=1) (hby:i.bytes=bytes) (hzs:z.cells.size=1) (v:Value) (xs:List Value) (h:Tail w B e v xs) (ad:Addr) (c:Nat) (x:Value) (hx:w.cell? ad=some x) (h1:x.oneCell'=true)
  (h63:xs.length+1≤maxLen) (hbytes:(xs.length+1)*bytes≤140737488355328) (hB:B≤w.heap.size) :
  ∃ v' w',(Builtin.append_ #[t,t] ty #[v,.slice (some ad) 1 c]).run P w=.ok v' w'∧Tail w' B e v' (xs++[x])∧w.grownBy w' v.ownBlock∧(∀ k,v'.ownBlock=some k→v.ownBlock=some k∨w.heap.size≤k):=by
 have hnews:∀ j u,[x][j]?=some u→w.cell? (ad.add j)=some u:=fun j u hj=>by
  cases j with
  | zero =>
   simp at hj;subst hj
   have e:ad.add 0=ad:=by cases ad;unfold Addr.add;split<;>simp_all
   rw[e];exact hx
  | succ j=>simp at hj
 have h1':∀ u∈[x],u.oneCell'=true:=fun u hu=>by rw[List.mem_singleton.1 hu];exact h1
 have new_:∀ (v':Value) (w':World),w'.ownsRow w.heap.size e 1 v' (xs.length+1) (xs++[x])→Tail w' B e v' (xs++[x])∧∀ k,v'.ownBlock=some k→w.heap.size≤k:=fun v' w' ho=>by
  rcases ho.2 with⟨q1,q2⟩|⟨g,cap,cur,q1,q2,q⟩
  ·omega
  ·refine⟨Tail.of_own (n:=xs.length+1) ⟨ho.1,Or.inr ⟨g,cap,cur,q1,by omega,q⟩⟩,fun k hk=>?_⟩
   rw[q1] at hk
   simp[Value.ownBlock] at hk
   omega
 rcases h with⟨rfl,rfl⟩|⟨g,off,cap,cur,rfl,q1,q2,q3,q4,q5,q6⟩
 ·obtain⟨v',w',hr,ho,hg,-⟩:=run_append_own (P:=P) w w.heap.size t ty e i z 1 bytes ht hi hz hsize hby hzs (by omega) (.slice none 0 0) 0 [] (World.ownsRow_nil w _ e 1) ad 1 c [x] rfl hnews h1' (by simpa using h63) (by simpa using hbytes) (Nat.le_refl _)
  obtain⟨n1,n2⟩:=new_ v' w' (by simpa using ho)
  exact⟨v',w',hr,n1,hg,fun k hk=>Or.inr (n2 k hk)⟩
 ·by_cases hroom:xs.length+1≤cap
  ·have hcell:w.cell? ⟨g,off+xs.length,none⟩=some (cur.getD (off+xs.length) default):=by
    rw[cell_of_row w g _ cur e (0,0) q2,Array.getD_eq_getD_getElem?,Array.getElem?_eq_getElem (by omega)];rfl
   have hr:=run_append_room_cells (P:=P) w t ty e i ht hi g off xs.length cap ad 1 c [x] (by simp[hsize]) hnews h1' hroom
    (fun j hj=>by (obtain rfl:j=0:=by simpa using hj);rw[hsize,Nat.mul_one,Nat.add_zero,hcell];rfl)
    (fun j hj=>by simp[World.frozen?,q2])
   rw[hsize,Nat.mul_one] at hr
   refine⟨_,_,hr,Or.inr ⟨g,off,cap,cur.setIfInBounds (off+xs.length) x,by simp,q1,?_,by simpa using hroom,q4,by simpa using q5,?_⟩,?_,fun k hk=>Or.inl hk⟩
   ·simp only[World.setCells]
    exact heap_setCell_same w g _ cur e x q2
   ·rw[Array.toList_setIfInBounds,List.drop_set,if_neg (by omega),List.length_append,List.length_singleton]
    have hl:cap≤(cur.toList.drop off).length:=by rw[List.length_drop,Array.length_toList];omega
    rw[show off+xs.length-off=xs.length by omega,List.take_add_one,List.take_set,List.set_eq_of_length_le (by rw[List.length_take];omega),q6,List.getElem?_set_self (by omega)]
    rfl
   ·simp only[World.setCells]
    exact⟨rfl,rfl,rfl,by simp[World.setCell],fun k _ hk=>heap_setCell_other w ⟨g,off+xs.length,none⟩ k x (fun e=>hk (by simp[Value.ownBlock,e]))⟩
  ·have holds:∀ j u,xs[j]?=some u→w.cell? ((⟨g,off,none⟩:Addr).add j)=some u:=fun j u hu=>by
    rw[Addr.add_lit,cell_of_row w g _ cur e (0,0) q2]
    rw[←q6,List.getElem?_take] at hu
    split at hu
    ·simpa using hu
    ·cases hu
   obtain⟨v',w',hr,ho,hg⟩:=run_append_arg_grows (P:=P) w t ty e i z 1 bytes ht hi hz hsize hby hzs (by omega) ⟨g,off,none⟩ xs.length cap xs (by simp) holds ad 1 c [x] rfl hnews (by omega) h63 hbytes
   obtain⟨n1,n2⟩:=new_ v' w' ho
   exact⟨v',w',hr,n1,⟨hg.os,hg.tape,hg.output,hg.size,fun k hk _=>hg.block k hk (by simp)⟩,fun k hk=>Or.inr (n2 k hk)⟩
theorem wpList_append_known {ops:Array Oper} {rest:List Oper} {o:Oper} {a:Act} {Q:Exit→Act→World→Prop} (hgd:o.guard=none) (s x:Operand) (t:TypeId)
  (ho:o.op=.call {callee:=.builtin .append,args:=#[s,x],argTypes:=#[t,t]}) (vs vx:Value) (hs:a.eval s=vs) (hx:a.eval x=vx) {v':Value} {w':World}
  (hr:(Builtin.append_ #[t,t] o.type #[vs,vx]).run P w=.ok v' w') (h:wpList P ops Q rest (a.put o.dst v') w'):wpList P ops Q (o::rest) a w :=
 wpList_plain hgd fun _ hK=>by
  unfold Oper.wp execOp
  simp only[ho,resolve,invoke,builtin,Sem.run_bind,Sem.run_pure,Result.andThen_ok,List.map_toArray,List.map_cons,List.map_nil,hs,hx,hr]
  exact hK _ _ h
end
def rawB (k:Int):Bool:=decide (k<8)
def oldB (M:Mem) (a:Int):Bool:=decide (2*M.half≤a)
def youngB (M:Mem) (a:Int):Bool:=(kindW a==0)&&(a != 0)&&!oldB M (placeW a)
def inSt (st:List Int) (a:Int):Bool:=st.contains a
def fldB (st:List Int) (a:Int):Bool :=
 if kindW a=0 then a==0||inSt st (placeW a) else if kindW a=1 then true else if kindW a=2 then decide (a/4≤2) else false
def cardB (M:Mem) (a:Int):Bool:=M.cards.getD ((a-2*M.half)/M.card).toNat false
theorem raw_any (k:Int) (w:World):Calls Tryz.prog 89 #[.int .i64 k] w fun e w'=>e=.returned (.bool (rawB k))∧w'=w:=by
 unfold rawB
 go_enter Tryz.func89,Tryz.ntmps89
 go_wp2
 go_ret
 exact⟨rfl,rfl⟩
theorem base_any (w:World) (b o:Nat) (M:Mem) (S:Sls) (hM:RMem w b o M S) (hs:Shp M) :
  Calls Tryz.prog 133 #[.pointer (some ⟨b,o,none⟩)] w fun e w'=>e=.returned (.int .i64 (M.base:Int))∧∃ n,w'=w.drewN n:=by
 obtain⟨hb,b0,b1⟩:=hs.base
 have h2:=hs.h2
 have c1:=hM.used
 have c2:=hM.half
 have e1:IntKind.i64.wrap (M.used*M.half)=M.used*M.half:=IntWalk.i64_in _ (by omega)
 rw[←hb]
 clear hb hM hs
 go_enter Tryz.func133,Tryz.ntmps133
 go_wp2
 go_quiet (fail)
 go_wp2
 go_ret
 exact⟨rfl,_,rfl⟩
theorem inOld_any (a:Int) (w:World) (b o:Nat) (M:Mem) (S:Sls) (hM:RMem w b o M S) (hs:Shp M) :
  Calls Tryz.prog 101 #[.pointer (some ⟨b,o,none⟩),.int .i64 a] w fun e w'=>e=.returned (.bool (oldB M a))∧w'=w:=by
 have h1:=hs.h1
 have h2:=hs.h2
 have c2:=hM.half
 clear hM hs
 unfold oldB
 go_enter Tryz.func101,Tryz.ntmps101
 go_wp2
 go_ret
 exact⟨rfl,rfl⟩
theorem young_any (a:Int) (h0:0≤a) (h1:a≤18446744073709551615) (w:World) (b o:Nat) (M:Mem) (S:Sls) (hM:RMem w b o M S) (hs:Shp M) :
  Calls Tryz.prog 110 #[.pointer (some ⟨b,o,none⟩),.int .u64 a] w fun e w'=>e=.returned (.bool (youngB M a))∧w'=w:=by
 by_cases hk:kindW a=0
 ·have k1:(kindW a==0)=true:=by simpa using hk
  by_cases hz:a=0
  ·have k2:(a != 0)=false:=by simpa using hz
   have e:youngB M a=false:=by simp[youngB,k2]
   rw[e]
   clear hk hz
   go_enter Tryz.func110,Tryz.ntmps110
   go_wp2_with (first
    | (go_at_call 103;refine (kind_any _ h0 h1 _).mono ?_;rintro e w' ⟨rfl,rfl⟩))
   go_ret
   exact⟨rfl,rfl⟩
  ·have k2:(a != 0)=true:=by simpa using hz
   have e:youngB M a=!oldB M (placeW a):=by simp[youngB,k1,k2]
   rw[e]
   clear hk hz
   go_enter Tryz.func110,Tryz.ntmps110
   go_wp2_with (first
    | (go_at_call 103;refine (kind_any _ h0 h1 _).mono ?_;rintro e w' ⟨rfl,rfl⟩)
    | (go_at_call 104;refine (place_any _ h0 h1 _).mono ?_;rintro e w' ⟨rfl,rfl⟩)
    | (go_at_call 101;refine (inOld_any _ _ b o M S hM hs).mono ?_;rintro e w' ⟨rfl,rfl⟩))
   go_ret
   exact⟨rfl,rfl⟩
 ·have k1:(kindW a==0)=false:=by simpa using hk
  have e:youngB M a=false:=by simp[youngB,k1]
  rw[e]
  clear hk
  go_enter Tryz.func110,Tryz.ntmps110
  go_wp2_with (first
   | (go_at_call 103;refine (kind_any _ h0 h1 _).mono ?_;rintro e w' ⟨rfl,rfl⟩))
  go_ret
  exact⟨rfl,rfl⟩
theorem bcells_at (l:List Bool) (j:Nat) (h:j<l.length):(bcells l)[j]?=some (.bool (l.getD j false)):=by
 simp[bcells,List.getD_eq_getElem?_getD,h]
theorem marked_any (a:Int) (w:World) (b o:Nat) (M:Mem) (S:Sls) (hM:RMem w b o M S) (hs:Shp M) (ha:2*M.half≤a) (hb:a<2*M.half+M.old) :
  Calls Tryz.prog 143 #[.pointer (some ⟨b,o,none⟩),.int .i64 a] w fun e w'=>e=.returned (.bool (cardB M a))∧∃ n,w'=w.drewN n:=by
 obtain⟨i0,i1⟩:=hs.card a ha hb
 have h1:=hs.h1
 have h2:=hs.h2
 have o2:=hs.o2
 have cc1:=hs.c1
 have cc2:=hs.c2
 have c1:=hM.cards
 have c2:=hM.half
 have c3:=hM.card
 unfold cardB
 have hq:(a-2*M.half).tdiv M.card=(a-2*M.half)/M.card:=Int.tdiv_eq_ediv_of_nonneg (by omega)
 obtain⟨J,hJ⟩:∃ J:Nat,(a-2*M.half)/M.card=(J:Int):=⟨((a-2*M.half)/M.card).toNat,by omega⟩
 rw[hJ] at hq i1 i0 ⊢
 have hJl:J<M.cards.length:=by omega
 obtain⟨cb,co,hC,hcell⟩:=hM.rC J _ (bcells_at M.cards J hJl)
 rw[hC] at c1
 rw[Int.toNat_natCast]
 have e0:IntKind.i64.wrap (2*M.half)=2*M.half:=IntWalk.i64_in _ (by omega)
 have e1:IntKind.i64.wrap (a-2*M.half)=a-2*M.half:=IntWalk.i64_in _ (by omega)
 have hcap:=hM.capC
 have hcl:M.cards.length≤9223372036854775807:=hM.ok.lenC
 have e2:IntKind.i64.wrap ((J:Nat):Int)=(J:Int):=IntWalk.i64_in _ (by omega)
 have hne:(M.card==0)=false:=by simp;omega
 have hjj:(J:Int)<(M.cards.length:Int):=by omega
 clear hJ hC hM hs
 go_enter Tryz.func143,Tryz.ntmps143
 go_wp2
 go_quiet (fail)
 go_wp2
 go_ret
 refine⟨?_,_,rfl⟩
 simp[List.getD_eq_getElem?_getD,hJl]
theorem undStarts:Tryz.prog.underlying 198=some (.map 3 4):=by kernel_rfl
theorem undInt:Tryz.prog.underlying 3=some (.int .i64):=by kernel_rfl
theorem zeroBool (w:World):(zeroValue 4).run Tryz.prog w=.ok (.bool false) w:=by kernel_rfl
theorem smap_look {w:World} {bm:Nat} {st:List Int} (h:SMap w bm .i64 st) (a:Int) :
  (Instr.lookup 198 (.map (some bm)) (.int .i64 a) false).run Tryz.prog w=.ok (.bool (inSt st a)) w:=by
 obtain⟨es,hm,hg⟩:=h
 rw[run_lookup_mapi undStarts undInt (zeroBool w) hm a false,hg a]
 unfold inSt
 cases st.contains a<;>rfl
theorem smap_put {w:World} {bm:Nat} {st:List Int} (h:SMap w bm .i64 st) (a:Int) :
  ∃ w',(Instr.mapUpdate 198 (.map (some bm)) (.int .i64 a) (.bool true)).run Tryz.prog w=.ok () w'∧SMap w' bm .i64 (st++[a])∧But bm w w':=by
 obtain⟨es,hm,hg⟩:=h
 obtain⟨w',h1,h2,h3⟩:=run_update_mapi (P:=Tryz.prog) undStarts undInt hm a (.bool true)
 exact⟨w',h1,SMap.put a hg h2,h3⟩
theorem field_any (a:Int) (h0:0≤a) (h1:a≤18446744073709551615) (bm:Nat) (st:List Int) (w:World) (hm:SMap w bm .i64 st) :
  Calls Tryz.prog 138 #[.int .u64 a,.map (some bm)] w fun e w'=>e=.returned (.bool (fldB st a))∧w'=w:=by
 have hr:0≤kindW a∧kindW a≤3:=by unfold kindW;omega
 have hlk:=smap_look hm (placeW a)
 clear hm
 by_cases hk0:kindW a=0
 ·have k1:(kindW a==0)=true:=by simpa using hk0
  by_cases hz:a=0
  ·have k2:(a==0)=true:=by simpa using hz
   have e:fldB st a=true:=by simp[fldB,hk0,k2]
   rw[e]
   clear hk0 hz hlk
   go_enter Tryz.func138,Tryz.ntmps138
   go_wp2_with (first
    | (go_at_call 103;refine (kind_any _ h0 h1 _).mono ?_;rintro e w' ⟨rfl,rfl⟩))
   go_ret
   exact⟨rfl,rfl⟩
  ·have k2:(a==0)=false:=by simpa using hz
   have e:fldB st a=inSt st (placeW a):=by simp[fldB,hk0,k2]
   rw[e]
   clear hk0 hz
   go_enter Tryz.func138,Tryz.ntmps138
   go_wp2_with (first
    | (go_at_call 103;refine (kind_any _ h0 h1 _).mono ?_;rintro e w' ⟨rfl,rfl⟩)
    | (go_at_call 104;refine (place_any _ h0 h1 _).mono ?_;rintro e w' ⟨rfl,rfl⟩))
   go_ret
   exact⟨rfl,rfl⟩
 ·have k1:(kindW a==0)=false:=by simpa using hk0
  by_cases hk2:kindW a=2
  ·have k2:(kindW a==2)=true:=by simpa using hk2
   have e:fldB st a=decide (a/4≤2):=by simp[fldB,hk2]
   rw[e]
   clear hk0 hk2 hlk
   go_enter Tryz.func138,Tryz.ntmps138
   go_wp2_with (first
    | (go_at_call 103;refine (kind_any _ h0 h1 _).mono ?_;rintro e w' ⟨rfl,rfl⟩))
   go_ret
   exact⟨rfl,rfl⟩
  ·have k2:(kindW a==2)=false:=by simpa using hk2
   by_cases hk3:kindW a=1
   ·have k3:(kindW a==1)=true:=by simpa using hk3
    have e:fldB st a=true:=by simp[fldB,hk3]
    rw[e]
    clear hk0 hk2 hk3 hlk
    go_enter Tryz.func138,Tryz.ntmps138
    go_wp2_with (first
     | (go_at_call 103;refine (kind_any _ h0 h1 _).mono ?_;rintro e w' ⟨rfl,rfl⟩))
    go_ret
    exact⟨rfl,rfl⟩
   ·have k3:(kindW a==1)=false:=by simpa using hk3
    have e:fldB st a=false:=by simp[fldB,hk0,hk2,hk3]
    rw[e]
    clear hk0 hk2 hk3 hlk
    go_enter Tryz.func138,Tryz.ntmps138
    go_wp2_with (first
     | (go_at_call 103;refine (kind_any _ h0 h1 _).mono ?_;rintro e w' ⟨rfl,rfl⟩))
    go_ret
    exact⟨rfl,rfl⟩
def headV (a:Int):Value:=.agg #[.int .i64 (hKind a),.int .i64 (hAge a),.int .i64 (hMark a),.int .i64 (hSize a)]
def EachPost (L:Nat→Prop) (w:World) (I:List Ob→World→Prop) (see:Ob→Bool) (v0:List Ob) (p:List Ob × Bool) (e:Ending) (w':World):Prop :=
 ∃ v,e=.returned (.bool (p.2&&p.1.all see))∧I (v0++v) w'∧((p.2&&p.1.all see)=true→v=p.1)∧Keep L w w'
theorem wcells_at (l:List Int) (j:Nat) (h:j<l.length):(wcells l)[j]?=some (.int .u64 (l.getD j 0)):=by
 simp[wcells,List.getD_eq_getElem?_getD,h]
theorem wat_in {M:Mem} (h:M.Ok) (j:Nat):0≤wat M.W j∧wat M.W j≤18446744073709551615:=by
 unfold wat
 rw[List.getD_eq_getElem?_getD]
 rcases Nat.lt_or_ge j M.W.length with g|g
 ·rw[List.getElem?_eq_getElem g];exact h.W _ (List.getElem_mem g)
 ·rw[List.getElem?_eq_none g];simp
theorem each_walk (w0:World) (b o:Nat) (M:Mem) (S:Sls) (hM:RMem w0 b o M S) (gb gs:Addr) (hG:GBound w0 gb) (hS:GShape w0 gs)
  (L:Nat→Prop) (g:Nat) (lb:Array Value) (eg:∀ args w,(callFunc g args).run Tryz.prog w=.ok (.enter g args) w) (see:Ob→Bool) (I:List Ob→World→Prop)
  (w:World) (hE:Ext w0 w) (hL:∀ k,L k→w0.heap.size≤k∧k<w.heap.size) (hX:∀ v w w',I v w→Ext w w'→I v w') (a to:Nat) (hto:to≤M.W.length) (hlen:M.W.length≤196608)
  (hC:∀ v x w',I v w'→Keep L w w'→ObIn M.W a to x→Calls Tryz.prog g (#[.int .i64 (x.a:Int),headV x.w]++lb) w' fun e w''=>e=.returned (.bool (see x))∧I (v++[x]) w''∧Keep L w' w'')
  (hat:a≤to) (v0:List Ob) (hI:I v0 w) :
  Calls Tryz.prog 92 #[.pointer (some ⟨b,o,none⟩),.int .i64 (a:Int),.int .i64 (to:Int),.func (.func g) #[] lb] w (EachPost L w I see v0 (part M.W a to)):=by
 have HX:=Lib.hid hX
 have HC:=Lib.hid hC
 have HL:=Lib.hid hL
 have HE:=Lib.hid hE
 have HM:=Lib.hid hM
 have HG:=Lib.hid hG
 have HS:=Lib.hid hS
 have HI:Hid (I v0 w):=hI
 clear hX hM hC hI hL hE hG hS
 go_enter Tryz.func92,Tryz.ntmps92
 go_wp2
 go_loopw [1] (fun i wr=>∃ (k:Nat) (v:List Ob),a≤k∧k≤to∧i=.int .i64 (k:Int)∧Hid (I (v0++v) wr)∧Hid (part M.W a to=(v++(part M.W k to).1,(part M.W k to).2))∧Hid (v.all see=true)∧Hid (Keep L w wr))
  (fun i _=>to-(intOf i).toNat)
 case atStart=>exact⟨a,[],Nat.le_refl _,hat,rfl,by rw[List.append_nil];exact HI,rfl,rfl,Keep.refl _ _⟩
 case round =>
  obtain⟨k,v,hk1,hk2,rfl,hI,hP,hA,hK⟩:=hrel
  by_cases hlt:k<to
  ·have hkW:k<M.W.length:=by omega
   have hEr:Ext w0 wr:=Ext.keep HE.out hK.out fun i hi=>(HL.out i hi).1
   have hMr:RMem wr b o M S:=HM.out.ext hEr
   have c_W:=hMr.W
   obtain⟨wb,wo,hWa,hc⟩:=hMr.rW k _ (wcells_at M.W k hkW)
   rw[hWa] at c_W
   have hcapW:=hMr.capW
   have hgb:GBound wr gb:=hEr.cell_ HG.out
   have hgs:GShape wr gs:=hEr.cell_ HS.out
   obtain⟨hq0,hq1⟩:=wat_in HM.out.ok k
   change wr.cell? ⟨wb,wo+k,none⟩=some (.int .u64 (wat M.W k)) at hc
   have HER:=Lib.hid hEr
   clear hMr hWa hEr
   have hsz:hSize (wat M.W k)≤281474976710655∧0≤hSize (wat M.W k):=by unfold hSize;omega
   obtain⟨hsz1,hsz0⟩:=hsz
   cases hd:isHd (wat M.W k) with
   | false =>
    have HB:=Lib.hid (part_bad M.W k to hlt (by rw[hd];rfl))
    go_wp2_with (go_at_call 56;refine (toHead_no _ hq0 hq1 hd _ gb gs hgb hgs).mono ?_;rintro e w1 ⟨rfl,hx⟩)
    go_ret
    refine⟨v,?_,?_,fun h=>?_,?_⟩
    ·rw[hP.out,HB.out];rfl
    ·refine HX.out _ _ _ hI.out ?_
     repeat (first|exact hx|exact Ext.refl _|(refine Ext.set_ ?_ (by simp;omega) _)|(refine Ext.alloc_ ?_ _)|(refine Ext.drew_ ?_)|(refine Ext.drewN_ ?_ _))
    ·rw[hP.out,HB.out] at h;cases h
    ·refine hK.out.ext_ ?_
     repeat (first|exact hx|exact Ext.refl _|(refine Ext.set_ ?_ (by simp;omega) _)|(refine Ext.alloc_ ?_ _)|(refine Ext.drew_ ?_)|(refine Ext.drewN_ ?_ _))
   | true =>
    by_cases hfit:(k:Int)+1+hSize (wat M.W k)≤(to:Int)
    ·have HIN:Hid (ObIn M.W a to ⟨k,wat M.W k⟩):=⟨rfl,hd,hk1,by show k+1+(hSize (wat M.W k)).toNat≤to;omega⟩
     have HB:=Lib.hid (part_next M.W k to hd (by omega))
     cases hsee:see ⟨k,wat M.W k⟩ with
     | false =>
      have HSEE:=Lib.hid hsee
      go_wp2_with (first
       | (go_at_call 56;refine (toHead_yes _ hq0 hq1 hd _).mono ?_;rintro e w1 ⟨rfl,hx⟩;have hxs:=hx.size))
      refine (HC.out (v0++v) ⟨k,wat M.W k⟩ _ ?_ ?_ HIN.out).mono ?_
      ·refine HX.out _ _ _ hI.out ?_
       repeat (first|exact hx|exact Ext.refl _|(refine Ext.set_ ?_ (by simp;omega) _)|(refine Ext.alloc_ ?_ _)|(refine Ext.drew_ ?_)|(refine Ext.drewN_ ?_ _))
      ·refine hK.out.ext_ ?_
       repeat (first|exact hx|exact Ext.refl _|(refine Ext.set_ ?_ (by simp;omega) _)|(refine Ext.alloc_ ?_ _)|(refine Ext.drew_ ?_)|(refine Ext.drewN_ ?_ _))
      rintro e w2 ⟨he,hI2,hK2⟩
      rw[hsee] at he
      subst he
      have HK2:=Lib.hid hK2
      clear hK2 hsee
      go_wp2
      go_ret
      refine⟨v++[⟨k,wat M.W k⟩],?_,?_,fun h=>?_,?_⟩
      ·rw[hP.out,HB.out];simp[HSEE.out]
      ·rw[←List.append_assoc];exact hI2
      ·rw[hP.out,HB.out] at h;simp[HSEE.out] at h
      ·refine Keep.trans (hK.out.ext_ ?_) HK2.out
       repeat (first|exact hx|exact Ext.refl _|(refine Ext.set_ ?_ (by simp;omega) _)|(refine Ext.alloc_ ?_ _)|(refine Ext.drew_ ?_)|(refine Ext.drewN_ ?_ _))
     | true =>
      have HSEE:=Lib.hid hsee
      go_wp2_with (first
       | (go_at_call 56;refine (toHead_yes _ hq0 hq1 hd _).mono ?_;rintro e w1 ⟨rfl,hx⟩;have hxs:=hx.size))
      refine (HC.out (v0++v) ⟨k,wat M.W k⟩ _ ?_ ?_ HIN.out).mono ?_
      ·refine HX.out _ _ _ hI.out ?_
       repeat (first|exact hx|exact Ext.refl _|(refine Ext.set_ ?_ (by simp;omega) _)|(refine Ext.alloc_ ?_ _)|(refine Ext.drew_ ?_)|(refine Ext.drewN_ ?_ _))
      ·refine hK.out.ext_ ?_
       repeat (first|exact hx|exact Ext.refl _|(refine Ext.set_ ?_ (by simp;omega) _)|(refine Ext.alloc_ ?_ _)|(refine Ext.drew_ ?_)|(refine Ext.drewN_ ?_ _))
      rintro e w2 ⟨he,hI2,hK2⟩
      rw[hsee] at he
      subst he
      have hq3:w2.cell? ⟨w1.heap.size,3,none⟩=some (.int .i64 (hSize (wat M.W k))):=hK2.cell (fun h=>by have h1:=(HL.out _ h).2;have h2:=hK.out.size;simp at h1;omega) (by simp[go_sem])
      have HK2:=Lib.hid hK2
      have HI2:=Lib.hid hI2
      clear hK2 hsee hI2
      go_wp2
      go_roundw
      case rel =>
       refine⟨k+1+(hSize (wat M.W k)).toNat,v++[⟨k,wat M.W k⟩],by omega,by omega,?_,?_,?_,?_,?_⟩
       ·go_num
       ·rw[←List.append_assoc];exact HI2.out
       ·show part M.W a to=_
        rw[hP.out,HB.out];simp
       ·show (v++[_]).all see=true
        simp[hA.out,HSEE.out]
       ·refine Keep.trans (hK.out.ext_ ?_) HK2.out
        repeat (first|exact hx|exact Ext.refl _|(refine Ext.set_ ?_ (by simp;omega) _)|(refine Ext.alloc_ ?_ _)|(refine Ext.drew_ ?_)|(refine Ext.drewN_ ?_ _))
      case measure=>simp[intOf];omega
    ·have HB:=Lib.hid (part_bad M.W k to hlt (by rw[hd];simp;omega))
     go_wp2_with (go_at_call 56;refine (toHead_yes _ hq0 hq1 hd _).mono ?_;rintro e w1 ⟨rfl,hx⟩;have hxs:=hx.size)
     go_ret
     refine⟨v,?_,?_,fun h=>?_,?_⟩
     ·rw[hP.out,HB.out];rfl
     ·refine HX.out _ _ _ hI.out ?_
      repeat (first|exact hx|exact Ext.refl _|(refine Ext.set_ ?_ (by simp;omega) _)|(refine Ext.alloc_ ?_ _)|(refine Ext.drew_ ?_)|(refine Ext.drewN_ ?_ _))
     ·rw[hP.out,HB.out] at h;cases h
     ·refine hK.out.ext_ ?_
      repeat (first|exact hx|exact Ext.refl _|(refine Ext.set_ ?_ (by simp;omega) _)|(refine Ext.alloc_ ?_ _)|(refine Ext.drew_ ?_)|(refine Ext.drewN_ ?_ _))
  ·have HD:=Lib.hid (part_done M.W k to (by omega))
   go_wp2
   go_ret
   refine⟨v,?_,hI.out,fun _=>?_,hK.out⟩
   ·rw[hP.out,HD.out];simp[hA.out]
   ·rw[hP.out,HD.out];simp
end Go.Proofs.YtelhoppfidibiaaGreatDoor
