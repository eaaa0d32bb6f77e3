/- The walk of mem's Told: a word as text. -/
import Derived.Test.YtelhoppfidibiaaGreatDoorJXa30
import Derived.Lib.SmallJoins
import Derived.Lib.AppendIntMem
set_option linter.unusedSimpArgs false
set_option linter.unusedVariables false
set_option maxHeartbeats 4000000
set_option maxRecDepth 100000
namespace Go.Proofs.YtelhoppfidibiaaGreatDoor
open Go.RowKit
open List renaming ext_getElem?→Za,getD_eq_getElem?_getD→Zb,getElem?_eq_getElem→Zc,length_cons→Zd,mem_of_mem_drop→Ze,mem_of_mem_take→Zf,take_of_length_le→Zg
open Go.Proofs.Tryz renaming prog→Zh
structure A3p (w:World):Prop where
 pow:Lib.TabIs Zh w "internal/strconv.uint64pow10" .u64 Lib.pow10Tab
 tz:C3v w
theorem A3p.ext {w w':World} (h:A3p w) (hx:A0 w w'):A3p w':=⟨Lib.tabBelow_of_tabIs h.pow w' hx,hx.cell_ h.tz⟩
theorem C5f {w:World} (k:Nat) (os:Array Obj):A0 w (Sort.grow (w.drewN k) os):=by
 refine⟨rfl,rfl,rfl,?_,fun i hi=>?_⟩
 ·show w.heap.size≤(w.heap++os).size;simp
 ·show (w.heap++os)[i]?=w.heap[i]?;rw[Array.getElem?_append,if_pos hi]
theorem C0z (n:Int) (h0:-9223372036854775808≤n) (h1:n≤9223372036854775807) (w:World) (ht:A3p w) :
  Calls Zh 57 #[.int .i64 n] w fun e w'=>e=.returned (.string (P8 n))∧A0 w w':=by
 refine (E4a n h0 h1 w ht.pow).mono ?_;rintro e w' ⟨he,k,os,rfl⟩;rw[C4x n h0 h1] at he;exact⟨he,C5f k os⟩
theorem C5q (n:Int) (h0:-9223372036854775808≤n) (h1:n≤9223372036854775807) (w:World) (ht:A3p w) :
  Calls Zh 58 #[.int .i64 n,.int .i64 10] w fun e w'=>e=.returned (.string (P8 n))∧A0 w w':=by
 refine (E0m n h0 h1 w ht.pow).mono ?_;rintro e w' ⟨he,k,os,rfl⟩;rw[C4x n h0 h1] at he;exact⟨he,C5f k os⟩
theorem C8q (l:List Ob) (p:Int):K0 (A0a (G9 l)) p=(l.findIdx? fun o=>(o.a:Int)==p).map fun i:Nat=>(i:Int):=by
 have key:∀ (l:List Ob) (n:Nat),((((G9 l).zipIdx n).map fun q=>(q.1,(q.2:Int))).find? fun q=>p==q.1).map (·.2)=(l.findIdx? fun o=>(o.a:Int)==p).map fun i:Nat=>((i+n:Nat):Int):=fun l=>by
  induction l with
  | nil=>intro n;rfl
  | cons o l ih =>
   intro n;have e:G9 (o::l)=(o.a:Int)::G9 l:=rfl;rw[e,List.zipIdx_cons,List.map_cons,List.find?_cons,List.findIdx?_cons];by_cases h:(o.a:Int)=p
   ·subst h;simp
   ·have h1:(p==(o.a:Int))=false:=by simpa using fun q:p=(o.a:Int)=>h q.symm
    have h2:((o.a:Int)==p)=false:=by simpa using h
    simp only[h1,h2];rw[ih (n+1),if_neg (by decide),Option.map_map];congr 1
    funext i
    simp;omega
 have:=key l 0;simp only[Nat.add_zero] at this;exact this
theorem E6h {l:List Ob} {p:Int} (h:0≤L9 l p):K0 (A0a (G9 l)) p=some (L9 l p):=by
 rw[C8q];unfold L9 at h ⊢
 cases hf:l.findIdx? fun o=>(o.a:Int)==p with
 | none=>rw[hf] at h;simp at h
 | some i=>rfl
theorem C8p {l:List Ob} {p:Int} (h:L9 l p<0):K0 (A0a (G9 l)) p=none:=by
 rw[C8q];unfold L9 at h
 cases hf:l.findIdx? fun o=>(o.a:Int)==p with
 | none=>rfl
 | some i =>
  rw[hf] at h;simp at h;omega
theorem E8d (u:Int) (h0:0≤u) (h1:u≤18446744073709551615):-9223372036854775808≤A2l u∧A2l u≤9223372036854775807:=by
 unfold A2l
 split<;>omega
theorem C8c (M:A7) (hg:goodB M=true) (u:Int) (h0:0≤u) (h1:u≤18446744073709551615) (hf:D0 (C6 M) u=true) (hl:(F5 M).length≤1000000) (mb:Nat) (w:World) (hMp:N8 w mb .i64 (mvE (A0a (G9 (F5 M))))) (hT:A3p w) :
  Calls Zh 55 #[.int .u64 u,.map (some mb)] w fun e w'=>e=.returned (.string (T4 u (F5 M)))∧A0 w w':=by
 have HT:=Hz hT;clear hT;by_cases k1:u%4=1
 ·have e:T4 u (F5 M)=P8 (A2l u):=by unfold T4;rw[if_pos k1]
  have hk:C7 u=1:=k1;obtain⟨n0,n1⟩:=E8d u h0 h1;rw[e];clear e hMp
  go_enter Tryz.func55,Tryz.ntmps55
  go_wp2_with (first
   | (go_at_call 103;refine (O8 _ h0 h1 _).mono ?_;rintro e w' ⟨he,hw9⟩;rw[hk] at he;subst he;have hw9:=hw9.symm;subst hw9)
   | (go_at_call 114;refine (E8a _ h0 h1 _).mono ?_;rintro e w' ⟨rfl,hw9⟩;have hw9:=hw9.symm;subst hw9)
   | (go_at_call 58;refine (C5q _ n0 n1 _ HT.out).mono ?_;rintro e w1 ⟨rfl,hq⟩;have HQ:=Hz hq;clear hq))
  go_ret;exact⟨rfl,HQ.out⟩
 ·by_cases k2:u%4=2
  ·have hu:u=2∨u=6∨u=10:=by
    unfold D0 C7 at hf;rw[if_neg (by omega),if_neg (by omega),if_pos k2] at hf;have:=of_decide_eq_true hf;omega
   clear hMp hf;rcases hu with rfl|rfl|rfl
   ·have e:T4 2 (F5 M)=⟨#[110,111,110,101]⟩:=by unfold T4;rw[if_neg (by decide),if_pos (by decide)];rfl
    have hk:C7 2=2:=rfl;have hix:∀ w:World,(Instr.index 173 (.agg #[.string ⟨#[110,111,110,101]⟩,.string ⟨#[102,97,108,115,101]⟩,.string ⟨#[116,114,117,101]⟩]) (.int .u64 0)).run Zh w=.ok (.string ⟨#[110,111,110,101]⟩) w:=fun w=>by kernel_rfl
    rw[e];clear e
    go_enter Tryz.func55,Tryz.ntmps55
    go_wp2_with (go_at_call 103;refine (O8 _ h0 h1 _).mono ?_;rintro e w' ⟨he,hw9⟩;rw[hk] at he;subst he;have hw9:=hw9.symm;subst hw9)
    go_ret;exact⟨rfl,A0.refl _⟩
   ·have e:T4 6 (F5 M)=⟨#[102,97,108,115,101]⟩:=by unfold T4;rw[if_neg (by decide),if_pos (by decide)];rfl
    have hk:C7 6=2:=rfl;have hix:∀ w:World,(Instr.index 173 (.agg #[.string ⟨#[110,111,110,101]⟩,.string ⟨#[102,97,108,115,101]⟩,.string ⟨#[116,114,117,101]⟩]) (.int .u64 1)).run Zh w=.ok (.string ⟨#[102,97,108,115,101]⟩) w:=fun w=>by kernel_rfl
    rw[e];clear e
    go_enter Tryz.func55,Tryz.ntmps55
    go_wp2_with (go_at_call 103;refine (O8 _ h0 h1 _).mono ?_;rintro e w' ⟨he,hw9⟩;rw[hk] at he;subst he;have hw9:=hw9.symm;subst hw9)
    go_ret;exact⟨rfl,A0.refl _⟩
   ·have e:T4 10 (F5 M)=⟨#[116,114,117,101]⟩:=by unfold T4;rw[if_neg (by decide),if_pos (by decide)];rfl
    have hk:C7 10=2:=rfl;have hix:∀ w:World,(Instr.index 173 (.agg #[.string ⟨#[110,111,110,101]⟩,.string ⟨#[102,97,108,115,101]⟩,.string ⟨#[116,114,117,101]⟩]) (.int .u64 2)).run Zh w=.ok (.string ⟨#[116,114,117,101]⟩) w:=fun w=>by kernel_rfl
    rw[e];clear e
    go_enter Tryz.func55,Tryz.ntmps55
    go_wp2_with (go_at_call 103;refine (O8 _ h0 h1 _).mono ?_;rintro e w' ⟨he,hw9⟩;rw[hk] at he;subst he;have hw9:=hw9.symm;subst hw9)
    go_ret;exact⟨rfl,A0.refl _⟩
  ·by_cases hz:u=0
   ·subst hz;have e:T4 0 (F5 M)=⟨#[110,111,119,104,101,114,101]⟩:=by unfold T4;simp
    have hk:C7 0=0:=rfl;rw[e];clear e hMp
    go_enter Tryz.func55,Tryz.ntmps55
    go_wp2_with (go_at_call 103;refine (O8 _ h0 h1 _).mono ?_;rintro e w' ⟨he,hw9⟩;rw[hk] at he;subst he;have hw9:=hw9.symm;subst hw9)
    go_ret;exact⟨rfl,A0.refl _⟩
   ·have hk:C7 u=0:=by
     unfold D0 at hf;by_cases q:C7 u=0
     ·exact q
     ·rw[if_neg q,if_neg (show ¬C7 u=1 from k1),if_neg (show ¬C7 u=2 from k2)] at hf
      cases hf
    have hu1:(u==0)=false:=by simpa using hz
    have hp:A1j u=true:=by
     unfold A1j;unfold C7 at hk;simp[hk,hz]
    have hpt:=C2e hg hf hp;have ep:B6 u=C9 u:=by
     unfold B6 at hpt ⊢
     split at hpt
     ·rename_i hc;rw[if_pos hc]
     ·omega
    have e0:T4 u (F5 M)=if L9 (F5 M) (C9 u)<0 then ⟨#[64]⟩ else ⟨#[64]⟩++P8 (L9 (F5 M) (C9 u)):=by
     unfold T4;rw[if_neg k1,if_neg k2,if_neg hz,ep]
    rw[e0];by_cases hin:L9 (F5 M) (C9 u)<0
    ·rw[if_pos hin];have hlk:∀ n,(Instr.lookup 103 (.map (some mb)) (.int .i64 (C9 u)) true).run Zh (w.drewN n)=.ok (.tuple #[.int .i64 0,.bool false]) (w.drewN n):=fun n=>by
      rw[B0p (hMp.drewN n),C8p hin];rfl
     have hlk0:(Instr.lookup 103 (.map (some mb)) (.int .i64 (C9 u)) true).run Zh w=.ok (.tuple #[.int .i64 0,.bool false]) w:=by
      rw[B0p hMp,C8p hin];rfl
     clear hMp hin e0 hp hpt ep hf k1 k2
     go_enter Tryz.func55,Tryz.ntmps55
     go_wp2_with (first
      | (go_at_call 103;refine (O8 _ h0 h1 _).mono ?_;rintro e w' ⟨he,hw9⟩;rw[hk] at he;subst he;have hw9:=hw9.symm;subst hw9)
      | (go_at_call 104;refine (A0h _ h0 h1 _).mono ?_;rintro e w' ⟨rfl,hw9⟩;have hw9:=hw9.symm;subst hw9))
     go_ret;exact⟨rfl,A0.refl _⟩
    ·rw[if_neg hin];obtain⟨i,hi⟩:∃ i,i=L9 (F5 M) (C9 u):=⟨_,rfl⟩;have hii:0≤i∧i<(F5 M).length:=by
      rw[hi];unfold L9 at hin ⊢
      cases hfi:(F5 M).findIdx? fun o=>(o.a:Int)==C9 u with
      | none=>rw[hfi] at hin;exact absurd (by decide) hin
      | some j =>
       have:=(List.findIdx?_eq_some_iff_getElem.1 hfi).1;simp;omega
     rw[←hi];have hlk0:(Instr.lookup 103 (.map (some mb)) (.int .i64 (C9 u)) true).run Zh w=.ok (.tuple #[.int .i64 i,.bool true]) w:=by
      rw[B0p hMp,E6h (by omega),←hi];rfl
     have hds:=A5k i;have i0:-9223372036854775808≤i:=by omega
     have i1:i≤9223372036854775807:=by omega
     clear hMp hin e0 hp hpt ep hf k1 k2 hi hii
     go_enter Tryz.func55,Tryz.ntmps55
     go_wp2_with (first
      | (go_at_call 103;refine (O8 _ h0 h1 _).mono ?_;rintro e w' ⟨he,hw9⟩;rw[hk] at he;subst he;have hw9:=hw9.symm;subst hw9)
      | (go_at_call 104;refine (A0h _ h0 h1 _).mono ?_;rintro e w' ⟨rfl,hw9⟩;have hw9:=hw9.symm;subst hw9)
      | (go_at_call 57;refine (C0z _ i0 i1 _ HT.out).mono ?_;rintro e w1 ⟨rfl,hq⟩;have HQ:=Hz hq;clear hq))
     go_ret;exact⟨rfl,HQ.out⟩
theorem Bld.lt {B b:Nat} {s:ByteArray} {w:World} (h:Bld B b s w):b<w.heap.size:=by
 rcases h with h|h<;>exact h.lt
theorem Bld.ext {B b:Nat} {s:ByteArray} {w w':World} (h:Bld B b s w) (hx:A0 w w'):Bld B b s w':=by
 have key:∀ p,Lib.BuilderAtF 109 5 B b p (Lib.strCells s) w→Lib.BuilderAtF 109 5 B b p (Lib.strCells s) w':=fun p hp=>by
  have hl:=hp.lt;obtain⟨hB,v,hb,hown,hne⟩:=hp;obtain⟨q1,q2,q3,q4,q5⟩:=hx;exact⟨hB,v,by rw[q5 b hl];exact hb,hown.kept (row:=none) ⟨q1,q2,q3,q4,fun k hk _=>q5 k hk⟩ (by cases hv:v.ownBlock<;>simp),hne⟩
 rcases h with h|h
 ·exact Or.inl (key _ h)
 ·exact Or.inr (key _ h)
theorem D5p (w:World):Bld w.heap.size w.heap.size ⟨#[]⟩ (w.alloc (.cells #[.pointer none,.slice none 0 0] 109)):=Lib.IsBuilderF.of (Lib.fresh_isBuilder _ _ w)
structure F9j (b:Nat) (w w':World):Prop where
 below:Below b w w'
 others:Lib.OthersKept 5 (some b) w w'
def A2i (n:Nat):UInt8:=if n<10 then UInt8.ofNat (48+n) else UInt8.ofNat (87+n)
def A3c (c:UInt8):List UInt8 :=
 if c.toNat=10 then [92,110] else if c.toNat=34∨c.toNat=92 then [92,c] else if c.toNat<32∨126<c.toNat then [92,120,A2i (c.toNat/16),A2i (c.toNat%16)] else [c]
def A3k (l:List UInt8):List UInt8:=l.flatMap A3c
def A5n (s:ByteArray):ByteArray:=⟨(34::(A3k s.data.toList++[34])).toArray⟩
theorem F0c (c:UInt8):(A3c c).length≤4:=by
 unfold A3c
 split
 ·simp
 split
 ·simp
 split<;>simp
theorem C2g:∀ l:List UInt8,(A3k l).length≤4*l.length
 | []=>by simp[A3k]
 | c::l=>by
  have h1:=F0c c;have h2:=C2g l;unfold A3k at h2 ⊢;rw[List.flatMap_cons,List.length_append,Zd];omega
theorem D0t (l:List UInt8) (k:Nat) (hk:k<l.length):A3k (l.take (k+1))=A3k (l.take k)++A3c l[k]:=by
 unfold A3k;rw[List.take_add_one,Zc hk,List.flatMap_append];simp
theorem D0s (s:ByteArray):(A5n s).size≤4*s.size+2:=by
 have:=C2g s.data.toList;have h2:s.data.toList.length=s.size:=by simp
 show (34::(A3k s.data.toList++[34])).toArray.size≤_;simp only[List.size_toArray,Zd,List.length_append,List.length_nil];omega
def leW:List Int→Int
 | []=>0
 | b::l=>b+256*leW l
def p8 (n:Nat):Int:=2^(8*n)
theorem D0k:p8 0=1:=rfl
theorem B4q (n:Nat):p8 (n+1)=256*p8 n:=by
 unfold p8;rw[show 8*(n+1)=8*n+8 from by omega,Int.pow_add];show _*256=_;omega
theorem D0j (n:Nat):0<p8 n:=by
 induction n with
 | zero=>decide
 | succ n ih=>rw[B4q];omega
theorem C1e:∀ l:List Int,(∀ b∈l,0≤b∧b≤255)→0≤leW l∧leW l<p8 l.length
 | [],_=>by decide
 | b::l,h=>by
  have h1:=C1e l fun x hx=>h x (by simp[hx])
  have h2:=h b (by simp);have h3:=B4q l.length;simp only[leW,Zd];omega
theorem E4v (l:List Int) (c:Int):leW (l++[c])=leW l+c*p8 l.length:=by
 induction l with
 | nil=>simp[leW,D0k]
 | cons b l ih =>
  have h3:=B4q l.length;simp only[List.cons_append,leW,Zd,ih,h3];rw[Int.mul_add,Int.mul_left_comm];omega
theorem C7x:∀ (l:List Int) (j:Nat),(∀ b∈l,0≤b∧b≤255)→leW l/p8 j%256=l.getD j 0
 | [],j,_=>by simp[leW]
 | b::l,0,h=>by
  have h2:=h b (by simp);simp only[leW,D0k,List.getD_cons_zero];omega
 | b::l,j+1,h=>by
  have h1:=C7x l j fun x hx=>h x (by simp[hx])
  have h2:=h b (by simp);simp only[leW,List.getD_cons_succ];rw[B4q,←Int.ediv_ediv_of_nonneg (by omega),show (b+256*leW l)/256=leW l from by omega];exact h1
def A8w (s:List Int) (i:Nat):Int:=leW ((s.drop (8*i)).take 8)
def A5i (s:List Int):List Int:=(List.range ((s.length+7)/8)).map (A8w s)
theorem C4e (s:List Int) (h:∀ b∈s,0≤b∧b≤255) (i:Nat):0≤A8w s i∧A8w s i≤18446744073709551615:=by
 have h1:=C1e ((s.drop (8*i)).take 8) fun b hb=>h b (Ze (Zf hb))
 have hm:∀ a b:Nat,a≤b→p8 a≤p8 b:=fun a b hab=>by
  induction hab with
  | refl=>exact Int.le_refl _
  | @step m _ ih=>have h1:=B4q m;have h2:=D0j m;simp only[Nat.succ_eq_add_one] at *;omega
 have h2:=hm _ 8 (List.length_take_le 8 (s.drop (8*i)));have h3:p8 8=18446744073709551616:=by decide
 unfold A8w;omega
theorem D5y (s:List Int) (h:∀ b∈s,0≤b∧b≤255) (k:Nat):A8w s (k/8)/p8 (k%8)%256=s.getD k 0:=by
 unfold A8w;rw[C7x _ _ fun b hb=>h b (Ze (Zf hb))];simp only[Zb,List.getElem?_take,List.getElem?_drop];rw[if_pos (by omega),show 8*(k/8)+k%8=k from by omega]
def A2u (s:List Int) (k i:Nat):Int:=leW (((s.take k).drop (8*i)).take 8)
def A7u (s:List Int) (k m:Nat):List Int:=(List.range m).map (A2u s k)
theorem D6c (s:List Int) (m:Nat):A7u s 0 m=List.replicate m 0:=by
 unfold A7u;apply Za;intro j;by_cases hj:j<m
 ·simp[hj,A2u,leW]
 ·simp[hj]
theorem D6a (s:List Int):A7u s s.length ((s.length+7)/8)=A5i s:=by
 unfold A7u A5i A2u A8w;simp
theorem D5u (s:List Int) (h:∀ b∈s,0≤b∧b≤255) (k i:Nat):0≤A2u s k i∧A2u s k i≤18446744073709551615 :=
 C4e (s.take k) (fun b hb=>h b (Zf hb)) i
theorem D5v (s:List Int) (k:Nat) (hk:k<s.length):A2u s (k+1) (k/8)=A2u s k (k/8)+s.getD k 0*p8 (k%8):=by
 unfold A2u;have e1:((s.take (k+1)).drop (8*(k/8))).take 8=(s.take k).drop (8*(k/8))++[s.getD k 0]:=by
  rw[show s.take (k+1)=s.take k++s[k]?.toList from List.take_add_one,List.drop_append_of_le_length (by simp;omega)];rw[Zg (by simp[hk];omega)];simp[Zb,hk]
 have e2:((s.take k).drop (8*(k/8))).take 8=(s.take k).drop (8*(k/8)):=Zg (by simp;omega);have e3:((s.take k).drop (8*(k/8))).length=k%8:=by simp;omega
 rw[e1,e2,E4v,e3]
theorem D5x (s:List Int) (k i:Nat) (hk:k<s.length) (hi:i≠k/8):A2u s (k+1) i=A2u s k i:=by
 unfold A2u;congr 1;apply Za;intro j;simp only[List.getElem?_take,List.getElem?_drop]
 split
 ·by_cases h:8*i+j<k
  ·rw[if_pos h,if_pos (by omega)]
  ·rw[if_neg h,if_neg (by omega)]
 ·rfl
theorem D6b (s:List Int) (k m:Nat) (hk:k<s.length):(A7u s k m).set (k/8) (A2u s k (k/8)+s.getD k 0*p8 (k%8))=A7u s (k+1) m:=by
 apply Za;intro j;unfold A7u;rw[List.getElem?_set];by_cases hj:j<m
 ·by_cases he:k/8=j
  ·subst he;simp[hj,D5v s k hk]
  ·simp[hj,he,D5x s k j hk (fun e=>he e.symm)]
 ·simp[hj];omega
def A0z (s:ByteArray):List Int:=s.data.toList.map fun b=>(b.toNat:Int)
def B5h (l:List Int):List Value:=l.map fun x=>Value.int .u64 x
theorem B1l (s:ByteArray):(A0z s).length=s.size:=by
 unfold A0z;rw[List.length_map];rfl
theorem B3j (s:ByteArray):∀ b∈A0z s,0≤b∧b≤255:=fun b hb=>by
 simp only[A0z,List.mem_map] at hb;obtain⟨x,_,rfl⟩:=hb;have:=x.toNat_lt;omega
theorem B9s (s:ByteArray) (k:Nat) (h:k<s.size):(A0z s).getD k 0=(s[k].toNat:Int):=by
 have h':k<s.data.toList.length:=h;rw[Zb,A0z,List.getElem?_map,Zc h'];rfl
theorem D5w (s:List Int) (h:∀ b∈s,0≤b∧b≤255) (k:Nat) (hk:k≤s.length):0≤A2u s k (k/8)∧A2u s k (k/8)<p8 (k%8):=by
 have h1:=C1e (((s.take k).drop (8*(k/8))).take 8) fun b hb=>h b (Zf (Ze (Zf hb)))
 have h2:(((s.take k).drop (8*(k/8))).take 8).length=k%8:=by simp;omega
 rw[h2] at h1;exact h1
theorem E9f (x c:Int) (j:Nat) (hj:j<8) (hx:0≤x∧x<p8 j) (hc:0≤c∧c≤255) :
  bits .or .u64 x (IntKind.u64.wrap (IntKind.u64.wrap c*2^(j*8)))=x+c*p8 j:=by
 have e:IntKind.u64.wrap c=c:=B8y c (by omega) (by omega);have ej:(2:Int)^(j*8)=p8 j:=by unfold p8;rw[Nat.mul_comm]
 have hp:=D0j j;have hj':j=0∨j=1∨j=2∨j=3∨j=4∨j=5∨j=6∨j=7:=by omega
 rw[e,ej,B5u];rcases hj' with rfl|rfl|rfl|rfl|rfl|rfl|rfl|rfl<;>simp only[p8] at*<;>
  (rw[B8y _ (by omega) (by omega),B2e _ _ _ (by omega) (by omega) (by omega) (by omega) (show x<2^_ from hx.2) (by omega)];omega)
theorem E3r:(Zh.info? 78).map (fun i=>(i.zero,i.size,i.bytes))=some (some (.int .u64 0),1,8):=by kernel_rfl
theorem F8h:Zh.underlying 76=some (.slice 78):=by kernel_rfl
theorem D6f (s:ByteArray) (hs:s.size≤35184372088832) (w:World) :
  Calls Zh 153 #[.string s] w fun e w'=>e=.returned (.slice (some ⟨w.heap.size,0,none⟩) ((s.size+7)/8) ((s.size+7)/8)) ∧
   w'.ownsRow w.heap.size 78 1 (.slice (some ⟨w.heap.size,0,none⟩) ((s.size+7)/8) ((s.size+7)/8)) ((s.size+7)/8) (B5h (A5i (A0z s)))∧A0 w w':=by
 obtain⟨i0,hi,hz0,hz1,hz2⟩:=info_parts E3r;have hm0:(0:Int)≤(s.size:Int)+7:=by omega
 go_enter Tryz.func153,Tryz.ntmps153
 go_wp2_with (first
  | (refine wpList_make_full _ rfl _ _ 76 rfl w.heap.size 78 i0 (.int .u64 0) 1 F8h hi hz0 hz1 .i64 .i64 (((s.size:Int)+7)/8) (((s.size:Int)+7)/8) ((s.size+7)/8) rfl rfl (by omega) (by omega) (by rw[hz2];omega) (by unfold maxLen;omega) (Nat.le_refl _) ?_;intro w1 hown hgrow;have hbel0:Below w.heap.size w w1:=(Below.refl _ _).grown hgrow (Nat.le_refl _) (by simp);clear hgrow))
 generalize hM:(s.size+7)/8=m at hown ⊢
 go_loopw [4,12] (fun t i wr=>∃ k:Nat,k≤s.size∧i=.int .i64 k∧wr.ownsRow w.heap.size 78 1 (.slice (some ⟨w.heap.size,0,none⟩) m m) m (B5h (A7u (A0z s) k m))∧Below w.heap.size w wr)
  (fun _ i _=>s.size-(intOf i).toNat)
 case atStart =>
  refine⟨0,Nat.zero_le _,rfl,?_,hbel0⟩;rw[D6c];rw[show (Value.int .u64 0).cells=#[Value.int .u64 0] from rfl,Nat.mul_one,toList_madeCells_one] at hown;simpa [B5h] using hown
 case round =>
  obtain⟨k,hk,rfl,hrow,hbel⟩:=hrel;have hsz:=hbel.size;have hcell:k<s.size→wr.cell? ⟨w.heap.size,k/8,none⟩=some (.int .u64 (A2u (A0z s) k (k/8))):=fun h=>by
   rw[hrow.cellAt (k/8) (by omega)];simp[B5h,A7u,show k/8<m from by omega]
  have hfr:wr.frozen? ⟨w.heap.size,k/8,none⟩=false:=hrow.frozenAt _;have hlt8:k<s.size→k/8<m:=by omega
  have hbt:=D5u (A0z s) (B3j s) k (k/8);clear hown;have hN:Hid ((s.size+7)/8=m):=hM;clear hM;go_wp2
  ·have hc1:=hcell (by assumption);have hm1:=hlt8 (by assumption);clear hcell hlt8;go_region;go_wp2
   go_roundw
   case rel =>
    have hor:=E9f (A2u (A0z s) k (k/8)) (s[k].toNat:Int) (k%8) (by omega) (D5w _ (B3j s) k (by rw[B1l];omega)) (B3j s _ (by rw[←B9s s k (by assumption)];simp[Zb,B1l,(by assumption:k<s.size)]));refine⟨k+1,by omega,rfl,?_,?_⟩
    ·rw[hor,←D6b (A0z s) k m (by rw[B1l];assumption),B9s s k (by assumption)];have:=(hrow.stored (k/8) (.int .u64 (A2u (A0z s) k (k/8)+(s[k].toNat:Int)*p8 (k%8)))).1;simpa [B5h,List.map_set] using this.drew
    ·exact (hbel.setCell (Nat.le_refl _) _).drew
   case measure=>simp[intOf];omega
  ·go_ret;have hkk:k=s.size:=by omega
   have hM':(s.size+7)/8=m:=hN;have hb:=D6a (A0z s);rw[B1l] at hb;rw[hM',←hb,hM',←hkk];exact⟨rfl,hrow,hbel⟩
def B2o (ws:List Int) (i:Nat):Int:=ws.getD (i/8) 0/p8 (i%8)%256
def A0j (ws:List Int) (k n:Nat):List Int:=(List.range n).map fun i=>if i<k then B2o ws i else 0
theorem F7d (ws:List Int) (n:Nat):A0j ws 0 n=List.replicate n 0:=by
 unfold A0j;apply Za;intro j;by_cases hj:j<n<;>simp[hj]
theorem F7c (ws:List Int) (k n:Nat) (hk:k<n):(A0j ws k n).set k (B2o ws k)=A0j ws (k+1) n:=by
 apply Za;intro j;unfold A0j;rw[List.getElem?_set];by_cases he:k=j
 ·subst he;simp[hk]
 ·by_cases hj:j<n
  ·have:(j<k+1)=(j<k):=propext ⟨fun h=>by omega,fun h=>by omega⟩;simp[he,hj,this]
  ·simp[he,hj]
end Go.Proofs.YtelhoppfidibiaaGreatDoor
