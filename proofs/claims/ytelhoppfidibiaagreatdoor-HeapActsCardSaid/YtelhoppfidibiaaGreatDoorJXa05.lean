/- Is a memory right? Plainly. -/
import Derived.Test.YtelhoppfidibiaaGreatDoorJXa04
import Derived.Deep.AppendLies
set_option linter.unusedSimpArgs false
set_option linter.unusedVariables false
set_option maxHeartbeats 4000000
set_option maxRecDepth 100000
namespace Go.Proofs.YtelhoppfidibiaaGreatDoor
def partN (M:A7):List Ob × Bool:=part M.W M.base (M.base+M.top.toNat)
def partO (M:A7):List Ob × Bool:=part M.W (2*M.half).toNat ((2*M.half).toNat+M.oldTop.toNat)
def D8 (M:A7):List Ob:=(partN M).1++(partO M).1
def M9 (M:A7) (see:Ob→Bool):Bool:=((partN M).2&&(partN M).1.all see)&&((partO M).2&&(partO M).1.all see)
def C6 (M:A7):List Int:=(D8 M).map fun o=>(o.a:Int)
def ObM (M:A7) (x:Ob):Prop:=A7r M.W M.base (M.base+M.top.toNat) x∨A7r M.W (2*M.half).toNat ((2*M.half).toNat+M.oldTop.toNat) x
theorem B4m {M:A7} {x:Ob} (h:x∈D8 M):ObM M x:=by
 unfold D8 at h;rcases List.mem_append.1 h with h|h
 ·exact Or.inl (A7a h)
 ·exact Or.inr (A7a h)
def flds (M:A7) (x:Ob):List Int:=(List.range x.n).map fun i=>A6 M.W (x.a+1+i)
def R2 (M:A7) (st:List Int) (x:Ob):Bool:=D2 (B3 x.w)||J6 st (flds M x)
def crd (M:A7) (x:Ob) (i:Nat):Bool:=!((L4 M (x.a:Int)&&J5 M (A6 M.W (x.a+1+i)))&&!A0e M ((x.a:Int)+1+i))
def A2v (M:A7) (x:Ob) (k:Nat):Bool:=(List.range k).all (crd M x)
def A1r (M:A7) (x:Ob):Bool:=D2 (B3 x.w)||A2v M x x.n
theorem A8z (M:A7) (x:Ob) (k:Nat):A2v M x (k+1)=(A2v M x k&&crd M x k):=by
 simp[A2v,List.range_succ]
def A4s (st:List Int) (pre:List (Int × Int)) (x:Int × Int):Bool :=
 !(((((C7 x.1 != 0)||(x.1==0))||!D0 st x.1)||decide (x.2<1))||F8 (pre.map (·.1)) x.1)&&!F8 (pre.map (·.2)) x.2
def T0 (st:List Int):List (Int × Int)→List (Int × Int)→Bool
 | _,[]=>true
 | pre,x::l=>A4s st pre x&&T0 st (pre++[x]) l
def goodB (M:A7):Bool :=
 P1 M&&M9 M (L3 M)&&J6 (C6 M) M.roots&&J6 (C6 M) M.weak&&(D8 M).all (R2 M (C6 M))&&T0 (C6 M) [] M.ids
def A0p (M:A7):Bool:=(D8 M).all (A1r M)
def chk (M:A7):Int:=if goodB M then (if A0p M then 0 else 5) else 3
theorem C9r {M:A7} {p q:Ob→Bool} (h:M9 M p=true):M9 M q=(D8 M).all q:=by
 simp only[M9,Bool.and_eq_true] at h;obtain⟨⟨h1,_⟩,h2,_⟩:=h;simp[M9,D8,h1,h2,List.all_append]
open Go.RowKit
open IntWalk renaming i64_in→Za
open List renaming length_append→Zb,mem_iff_getElem→Zc
open Go.Proofs.Tryz renaming prog→Zd
open World renaming ownsRow_nil→Ze
def B6 (a:Int):Int:=if C7 a=0∧a≠0∧a/4≤1099511627776 then C9 a else -1
def Z0 (l:List Ob):List Value:=l.flatMap fun o=>[Value.int .i64 (o.a:Int),Value.int .i64 (B3 o.w),Value.int .i64 (F4 o.w),Value.int .i64 (B5 o.w)]
def L9 (l:List Ob) (p:Int):Int:=((l.findIdx? fun o=>(o.a:Int)==p).map fun i=>(i:Int)).getD (-1)
theorem C9y (l:List Ob) (i:Nat) (h:i<l.length):(Z0 l)[i*4]?=some (.int .i64 (l[i].a:Int))∧(Z0 l)[i*4+1]?=some (.int .i64 (B3 l[i].w)) ∧
  (Z0 l)[i*4+2]?=some (.int .i64 (F4 l[i].w))∧(Z0 l)[i*4+3]?=some (.int .i64 (B5 l[i].w)):=by
 induction l generalizing i with
 | nil=>simp at h
 | cons y l ih =>
  cases i with
  | zero=>simp[Z0]
  | succ i =>
   have:=ih i (by simpa using h);have e1:(i+1)*4=i*4+4:=by omega
   rw[e1];simpa [Z0] using this
theorem E8r (l:List Ob):(Z0 l).length=l.length*4:=by
 induction l with
 | nil=>rfl
 | cons y l ih=>simp only[Z0,List.flatMap_cons,Zb,List.length_cons,List.length_nil] at *;omega
theorem C1x (l:List Ob) (p:Int):decide (0≤L9 l p)=F8 (l.map fun o=>(o.a:Int)) p:=by
 unfold L9 F8
 induction l with
 | nil=>simp
 | cons y l ih =>
  rw[List.findIdx?_cons];by_cases h:((y.a:Int)==p)=true
  ·have:p=(y.a:Int):=by simpa using (beq_iff_eq.1 h).symm
   subst this;simp
  ·rw[if_neg h];have h':¬p=(y.a:Int):=fun e=>h (by simp[e])
   simp only[List.map_cons,List.contains_cons];rw[show (p==(y.a:Int))=false by simpa using h',Bool.false_or,←ih]
   cases l.findIdx? fun o=>(o.a:Int)==p with
   | none=>rfl
   | some i=>simp;omega
theorem B7z (a:Int) (h0:0≤a) (h1:a≤18446744073709551615) (w:World) :
  Calls Zd 80 #[.int .u64 a] w fun e w'=>e=.returned (.int .i64 (B6 a))∧w'=w:=by
 by_cases hk:a%4=0
 ·by_cases hz:a=0
  ·subst hz;have e:B6 0=-1:=by decide
   rw[e];clear hk
   go_enter Tryz.func80,Tryz.ntmps80
   go_wp2;go_ret;exact⟨rfl,rfl⟩
  ·have k1:(a%4 != 0)=false:=by simpa using hk
   have k2:(a==0)=false:=by simpa using hz
   by_cases h3:a/4≤1099511627776
   ·have e:B6 a=a/4-1:=by unfold B6 C7;rw[if_pos ⟨hk,hz,h3⟩];rfl
    have h4:¬1099511627776<a/4:=by omega
    rw[e];clear hk hz
    go_enter Tryz.func80,Tryz.ntmps80
    go_wp2;go_ret;exact⟨rfl,rfl⟩
   ·have e:B6 a=-1:=by unfold B6;rw[if_neg (fun h=>h3 h.2.2)]
    have h4:1099511627776<a/4:=by omega
    rw[e];clear hk hz
    go_enter Tryz.func80,Tryz.ntmps80
    go_wp2;go_ret;exact⟨rfl,rfl⟩
 ·have k1:(a%4 != 0)=true:=by simpa using hk
  have e:B6 a=-1:=by unfold B6 C7;rw[if_neg (fun h=>hk h.1)]
  rw[e];clear hk
  go_enter Tryz.func80,Tryz.ntmps80
  go_wp2;go_ret;exact⟨rfl,rfl⟩
theorem C9o (a:Option Addr) (c:Nat) (l:List Ob) (p:Int) (w:World) (hl:l.length≤9223372036854775807) (hR:F7 w a (Z0 l)) :
  Calls Zd 81 #[.slice a l.length c,.int .i64 p] w fun e w'=>e=.returned (.int .i64 (L9 l p))∧w'=w:=by
 have HR:=Hz hR;clear hR
 go_enter Tryz.func81,Tryz.ntmps81
 go_wp2
 go_loop [5] (fun i=>∃ k:Nat,k≤l.length∧i=.int .i64 (k:Int)∧Hid (∀ j (hj:j<l.length),j<k→((l[j].a:Int)==p)=false)) (fun i=>l.length-(intOf i).toNat)
 case atStart=>exact⟨0,Nat.zero_le _,rfl,fun j _ hj=>absurd hj (Nat.not_lt_zero _)⟩
 case round =>
  obtain⟨k,hk,rfl,hA⟩:=hrel;by_cases hlt:k<l.length
  ·obtain⟨ob,oo,rfl,hc⟩:=HR.out _ _ (C9y l k hlt).1
   cases hq:((l[k].a:Int)==p) with
   | true =>
    have HQ:=Hz hq;go_wp2;go_ret;refine⟨?_,rfl⟩;unfold L9;have:l.findIdx? (fun o=>(o.a:Int)==p)=some k:=List.findIdx?_eq_some_iff_getElem.2 ⟨hlt,HQ.out,fun j hj=>by
     have:=hA.out j (by omega) hj;simpa using this⟩
    rw[this];rfl
   | false =>
    have HQ:=Hz hq;go_wp2;refine⟨⟨k+1,by omega,by go_num,fun j hj1 hj2=>?_⟩,by simp[intOf];omega⟩;by_cases e:j=k
    ·subst e;exact HQ.out
    ·exact hA.out j hj1 (by omega)
  ·go_wp2;go_ret;refine⟨?_,rfl⟩;unfold L9;have:l.findIdx? (fun o=>(o.a:Int)==p)=none:=List.findIdx?_eq_none_iff.2 fun x hx=>by
    obtain⟨j,hj,rfl⟩:=Zc.1 hx;exact hA.out j hj (by omega)
   rw[this];rfl
def G9 (l:List Ob):List Int:=l.map fun o=>(o.a:Int)
theorem D9y (a:Int) (h0:0≤a) (h1:a≤18446744073709551615) (ad:Option Addr) (c:Nat) (l:List Ob) (w:World) (hl:l.length≤9223372036854775807) (hR:F7 w ad (Z0 l)) (hlt:∀ o∈l,(o.a:Int)<1099511627776) :
  Calls Zd 129 #[.int .u64 a,.slice ad l.length c] w fun e w'=>e=.returned (.bool (D0 (G9 l) a))∧w'=w:=by
 have HR:=Hz hR;have HLT:=Hz hlt;clear hR hlt;by_cases hk:a%4=0
 ·have k1:(a%4==0)=true:=by simpa using hk
  by_cases hz:a=0
  ·have k2:(a==0)=true:=by simpa using hz
   have e:D0 (G9 l) a=true:=by unfold D0 C7;rw[if_pos hk,k2];rfl
   rw[e];clear hk hz
   go_enter Tryz.func129,Tryz.ntmps129
   go_wp2;go_ret;exact⟨rfl,rfl⟩
  ·have k2:(a==0)=false:=by simpa using hz
   have e:D0 (G9 l) a=F8 (G9 l) (C9 a):=by unfold D0;rw[if_pos (show C7 a=0 from hk),k2];rfl
   by_cases h3:a/4≤1099511627776
   ·have hpt:∀ w,Calls Zd 80 #[.int .u64 a] w fun e w'=>e=.returned (.int .i64 (C9 a))∧w'=w:=fun w=>by
     have:=B7z a h0 h1 w;rw[show B6 a=C9 a by unfold B6 C7;rw[if_pos ⟨hk,hz,h3⟩]] at this;exact this
    have hob:∀ w,F7 w ad (Z0 l)→Calls Zd 81 #[.slice ad l.length c,.int .i64 (C9 a)] w fun e w'=>e=.returned (.int .i64 (L9 l (C9 a)))∧w'=w:=fun w hr=>C9o ad c l (C9 a) w hl hr
    have hge:0≤C9 a:=by unfold C9;omega
    rw[e,G9,←C1x];have HPT:=Hz hpt;have HOB:=Hz hob;clear hk hz hpt hob e
    go_enter Tryz.func129,Tryz.ntmps129
    go_wp2_with (first
     | (go_at_call 80;refine (HPT.out _).mono ?_;rintro e w' ⟨rfl,rfl⟩)
     | (go_at_call 81;refine (HOB.out _ HR.out).mono ?_;rintro e w' ⟨rfl,rfl⟩))
    go_ret;exact⟨rfl,rfl⟩
   ·have hpt:∀ w,Calls Zd 80 #[.int .u64 a] w fun e w'=>e=.returned (.int .i64 (-1))∧w'=w:=fun w=>by
     have:=B7z a h0 h1 w;rw[show B6 a=-1 by unfold B6;rw[if_neg (fun h=>h3 h.2.2)]] at this;exact this
    have e2:F8 (G9 l) (C9 a)=false:=by
     unfold F8 G9;rw[List.contains_eq_any_beq,List.any_eq_false];intro x hx;obtain⟨o,ho,rfl⟩:=List.mem_map.1 hx;have:=HLT.out o ho;unfold C9;simp;omega
    rw[e,e2];have HPT:=Hz hpt;clear hk hz hpt e e2
    go_enter Tryz.func129,Tryz.ntmps129
    go_wp2_with (first
     | (go_at_call 80;refine (HPT.out _).mono ?_;rintro e w' ⟨rfl,rfl⟩))
    go_ret;exact⟨rfl,rfl⟩
 ·have k1:(a%4==0)=false:=by simpa using hk
  by_cases hk1:a%4=1
  ·have k2:(a%4==1)=true:=by simpa using hk1
   have e:D0 (G9 l) a=true:=by unfold D0 C7;rw[if_neg hk,if_pos hk1]
   rw[e];clear hk hk1
   go_enter Tryz.func129,Tryz.ntmps129
   go_wp2;go_ret;exact⟨rfl,rfl⟩
  ·have k2:(a%4==1)=false:=by simpa using hk1
   by_cases hk2:a%4=2
   ·have k3:(a%4==2)=true:=by simpa using hk2
    have e:D0 (G9 l) a=decide (a/4≤2):=by unfold D0 C7;rw[if_neg hk,if_neg hk1,if_pos hk2]
    rw[e];clear hk hk1 hk2
    go_enter Tryz.func129,Tryz.ntmps129
    go_wp2;go_ret;exact⟨rfl,rfl⟩
   ·have k3:(a%4==2)=false:=by simpa using hk2
    have e:D0 (G9 l) a=false:=by unfold D0 C7;rw[if_neg hk,if_neg hk1,if_neg hk2]
    rw[e];clear hk hk1 hk2
    go_enter Tryz.func129,Tryz.ntmps129
    go_wp2;go_ret;exact⟨rfl,rfl⟩
theorem B6l (za:Option Addr) (zc:Nat) (zs:List Int) (hz:zs.length≤9223372036854775807) (hb:∀ x∈zs,0≤x∧x≤18446744073709551615) (ad:Option Addr) (c:Nat) (l:List Ob) (w:World) (hl:l.length≤9223372036854775807)
  (hZ:F7 w za (C5 zs)) (hR:F7 w ad (Z0 l)) (hlt:∀ o∈l,(o.a:Int)<1099511627776) :
  Calls Zd 79 #[.slice za zs.length zc,.slice ad l.length c] w fun e w'=>e=.returned (.bool (J6 (G9 l) zs))∧w'=w:=by
 have HR:=Hz hR;have HZ:=Hz hZ;have HB:=Hz hb;have HLT:=Hz hlt;clear hR hZ hb hlt
 go_enter Tryz.func79,Tryz.ntmps79
 go_wp2
 go_loop [5] (fun i=>∃ k:Nat,k≤zs.length∧i=.int .i64 (k:Int)∧Hid (∀ j (hj:j<zs.length),j<k→D0 (G9 l) zs[j]=true)) (fun i=>zs.length-(intOf i).toNat)
 case atStart=>exact⟨0,Nat.zero_le _,rfl,fun j _ hj=>absurd hj (Nat.not_lt_zero _)⟩
 case round =>
  obtain⟨k,hk,rfl,hA⟩:=hrel;by_cases hltk:k<zs.length
  ·obtain⟨zb,zo,rfl,hc⟩:=HZ.out k (.int .u64 zs[k]) (by simp[C5,hltk]);have hin:=HB.out zs[k] (List.getElem_mem hltk);have hf:=fun W hr=>D9y zs[k] hin.1 hin.2 ad c l W hl hr HLT.out
   have HF:=Hz hf;clear hf
   cases hq:D0 (G9 l) zs[k] with
   | true =>
    have HQ:=Hz hq
    go_wp2_with (go_at_call 129;refine (HF.out _ HR.out).mono ?_;rintro e w' ⟨rfl,rfl⟩)
    refine⟨⟨k+1,by omega,by go_num,fun j hj1 hj2=>?_⟩,by simp[intOf];omega⟩;by_cases e:j=k
    ·subst e;exact HQ.out
    ·exact hA.out j hj1 (by omega)
   | false =>
    have HQ:=Hz hq
    go_wp2_with (go_at_call 129;refine (HF.out _ HR.out).mono ?_;rintro e w' ⟨rfl,rfl⟩)
    go_ret;refine⟨?_,rfl⟩;have:J6 (G9 l) zs=false:=by
     unfold J6;rw[List.all_eq_false];exact⟨_,List.getElem_mem hltk,by rw[HQ.out];simp⟩
    rw[this];rfl
  ·go_wp2;go_ret;refine⟨?_,rfl⟩;have:J6 (G9 l) zs=true:=by
    unfold J6;rw[List.all_eq_true];intro x hx;obtain⟨j,hj,rfl⟩:=Zc.1 hx;exact hA.out j hj (by omega)
   rw[this];rfl
theorem C1a (a:Int) (h0:0≤a) (h1:a≤18446744073709551615) (h:P7 a=true) (w:World) :
  Calls Zd 158 #[.int .u64 a] w fun e w'=>e=.returned (.tuple #[.int .i64 (B3 a),.int .i64 (F4 a),.int .i64 (G5 a),.int .i64 (B5 a),.bool true])∧w'=w:=by
 obtain⟨a1,a2,a3⟩:=(A1v a).1 h;clear h
 go_enter Tryz.func158,Tryz.ntmps158
 go_wp2;exact bodyPost_ret (v:=.tuple #[.int .i64 (B3 a),.int .i64 (F4 a),.int .i64 (G5 a),.int .i64 (B5 a),.bool true]) (by simp[results,Tryz.results158,go_sem,B3,F4,G5,B5]) rfl ⟨rfl,rfl⟩
theorem E4f (a:Int) (h0:0≤a) (h1:a≤18446744073709551615) (h:P7 a=false) (w:World) :
  Calls Zd 158 #[.int .u64 a] w fun e w'=>e=.returned (.tuple #[.int .i64 0,.int .i64 0,.int .i64 0,.int .i64 0,.bool false])∧w'=w:=by
 have hn:¬(a%4=3∧a/32768%2=0∧a/65536≤4096):=by rw[←A1v,h];simp
 clear h;by_cases a1:a%4=3
 ·by_cases a2:a/32768%2=0
  ·have a3:decide (a/65536≤4096)=false:=by simp;omega
   clear hn
   go_enter Tryz.func158,Tryz.ntmps158
   go_wp2;exact bodyPost_ret (v:=.tuple #[.int .i64 0,.int .i64 0,.int .i64 0,.int .i64 0,.bool false]) (by simp[results,Tryz.results158,go_sem]) rfl ⟨rfl,rfl⟩
  ·have b2:(a/32768%2==0)=false:=by simpa using a2
   clear hn a2
   go_enter Tryz.func158,Tryz.ntmps158
   go_wp2;exact bodyPost_ret (v:=.tuple #[.int .i64 0,.int .i64 0,.int .i64 0,.int .i64 0,.bool false]) (by simp[results,Tryz.results158,go_sem]) rfl ⟨rfl,rfl⟩
 ·have b1:(a%4==3)=false:=by simpa using a1
  clear hn a1
  go_enter Tryz.func158,Tryz.ntmps158
  go_wp2;exact bodyPost_ret (v:=.tuple #[.int .i64 0,.int .i64 0,.int .i64 0,.int .i64 0,.bool false]) (by simp[results,Tryz.results158,go_sem]) rfl ⟨rfl,rfl⟩
def A8k (o:Ob):Bool:=G5 o.w==0
def T7 (W:List Int) (a to:Nat):List Ob × Bool:=if ((part W a to).2&&(part W a to).1.all A8k)=true then ((part W a to).1,true) else ([],false)
theorem C6y:(Zd.info? 136).map (fun i=>(i.zero,i.size,i.bytes))=some (some (.agg #[.int .i64 0,.int .i64 0,.int .i64 0,.int .i64 0]),4,32):=by kernel_rfl
theorem D2x:Zd.underlying 128=some (.slice 136):=by kernel_rfl
def A4m (w:World) (base:Nat) (a:Option Addr) (c:Nat) (l:List Ob):Prop:=w.ownsRow base 136 4 (.slice a l.length c) l.length (Z0 l)
def D3x (w:World) (p:List Ob × Bool) (e:Ending) (w':World):Prop :=
 ∃ a c,e=.returned (.tuple #[.slice a p.1.length c,.bool p.2])∧A4m w' w.heap.size a c p.1∧A0 w w'
theorem E8t (v:List Ob) (x:Ob):Z0 (v++[x])=Z0 v++[Value.int .i64 (x.a:Int),Value.int .i64 (B3 x.w),Value.int .i64 (F4 x.w),Value.int .i64 (B5 x.w)]:=by simp[Z0]
theorem B8c {w:World} {B:Nat} {cs:List Value} {t:TypeId} {fr:Nat × Nat} (hb:w.heap[B]?=some (.cells cs.toArray t fr)):F7 w (some ⟨B,0,none⟩) cs:=fun j u hu=>⟨B,0,rfl,by
 rw[Nat.zero_add,cell_of_row w B j _ t fr hb];simpa using hu⟩
theorem A9n (W:List Int):∀ f a to,(objs W to f a).1.length≤f
 | 0,_,_=>by simp[objs]
 | f+1,a,to=>by
  unfold objs
  split
  ·split
   ·have:=A9n W f (a+1+(B5 (A6 W a)).toNat) to;simp;exact this
   ·simp
  ·simp
theorem C7o (b o:Nat) (M:A7) (S:C8) (w:World) (hM:G8 w b o M S) (a to:Nat) (hto:to≤M.W.length) (hlen:M.W.length≤196608) (hat:a≤to) :
  Calls Zd 128 #[.pointer (some ⟨b,o,none⟩),.int .i64 (a:Int),.int .i64 (to:Int)] w (D3x w (T7 M.W a to)):=by
 obtain⟨i0,hi,hz0,hz1,hz2⟩:=info_parts C6y;have HM:=Hz hM;have hltb:=hM.lt;clear hM
 go_enter Tryz.func128,Tryz.ntmps128
 go_wp2
 go_loopw [1,8] (fun i out wr=>∃ (k:Nat) (v:List Ob) (oa:Option Addr) (oc:Nat),a≤k∧k≤to∧i=.int .i64 (k:Int)∧out=.slice oa v.length oc∧Hid (A4m wr w.heap.size oa oc v) ∧
   Hid (part M.W a to=(v++(part M.W k to).1,(part M.W k to).2))∧Hid (v.all A8k=true)∧Hid (A0 w wr)∧v.length≤k)
  (fun i _ _=>to-(intOf i).toNat)
 case atStart=>exact⟨a,[],none,0,Nat.le_refl _,hat,rfl,rfl,Ze _ _ _ _,rfl,rfl,A0.refl w,Nat.zero_le _⟩
 case round =>
  obtain⟨k,v,oa,oc,hk1,hk2,rfl,rfl,hO,hP,hA,hE,hvk⟩:=hrel;by_cases hlt:k<to
  ·have hkW:k<M.W.length:=by omega
   have hMr:G8 wr b o M S:=HM.out.ext hE.out;have c_W:=hMr.W;obtain⟨wb,wo,hWa,hc⟩:=hMr.rW k _ (K2 M.W k hkW);rw[hWa] at c_W;obtain⟨hq0,hq1⟩:=O6 HM.out.ok k;change wr.cell? ⟨wb,wo+k,none⟩=some (.int .u64 (A6 M.W k)) at hc;have hsz:B5 (A6 M.W k)≤281474976710655∧0≤B5 (A6 M.W k):=by unfold B5;omega
   obtain⟨hsz1,hsz0⟩:=hsz;clear hMr hWa
   cases hd:P7 (A6 M.W k) with
   | false =>
    have HB:=Hz (B0u M.W k to hlt (by rw[hd];rfl))
    go_wp2_with (go_at_call 158;refine (E4f _ hq0 hq1 hd _).mono ?_;rintro e w1 ⟨rfl,rfl⟩)
    go_ret2
    have hp:T7 M.W a to=([],false):=by unfold T7;rw[hP.out,HB.out];simp
    rw[hp];exact⟨none,0,rfl,Ze _ _ _ _,hE.out⟩
   | true =>
    cases hm:(G5 (A6 M.W k) != 0) with
    | true =>
     go_wp2_with (go_at_call 158;refine (C1a _ hq0 hq1 hd _).mono ?_;rintro e w1 ⟨rfl,rfl⟩)
     go_ret2
     have hm0:(G5 (A6 M.W k)==0)=false:=by simpa using hm
     have hp:T7 M.W a to=([],false):=by
      unfold T7;rw[hP.out];by_cases hfit:k+1+(B5 (A6 M.W k)).toNat≤to
      ·rw[B4s M.W k to hd hfit];simp[A8k,hm0]
      ·rw[B0u M.W k to hlt (by rw[hd];simp;omega)];simp
     rw[hp];exact⟨none,0,rfl,Ze _ _ _ _,hE.out⟩
    | false =>
     by_cases hfit:(k:Int)+1+B5 (A6 M.W k)≤(to:Int)
     ·have HB:=Hz (B4s M.W k to hd (by omega));have HM0:Hid ((G5 (A6 M.W k)==0)=true):=by simpa [Hid] using hm
      have hes:=hE.out.size
      go_wp2_with (first
       | (go_at_call 158;refine (C1a _ hq0 hq1 hd _).mono ?_;rintro e w1 ⟨rfl,rfl⟩)
       | (at_builtin;(refine A5e rfl _ _ 128 rfl w.heap.size 136 i0 (.agg #[.int .i64 0,.int .i64 0,.int .i64 0,.int .i64 0]) 4 32 D2x hi hz0 hz1 hz2 rfl (by decide) _ v.length (Z0 v) rfl (hO.out.alloc _) (some ⟨w1.heap.size,0,none⟩) 1 1 [.int .i64 (k:Int),.int .i64 (B3 (A6 M.W k)),.int .i64 (F4 (A6 M.W k)),.int .i64 (B5 (A6 M.W k))] rfl (fun h=>by cases h) (Nat.le_refl _) rfl ?c1 ?c2 ?c3 ?c4 ?c5 ?_)))
      case c1=>exact B8c (heap_alloc_new w1 _)
      case c2=>intro u hu;simp at hu;rcases hu with rfl|rfl|rfl|rfl<;>rfl
      case c3=>unfold maxLen;omega
      case c4=>omega
      case c5=>simp;omega
      ·intro a' c' w2 hown hgrow hat';have HOW:=Hz hown;have HGR:=Hz hgrow;have HAT:=Hz hat';clear hown hgrow hat';go_wp2
       go_roundw
       case rel =>
        refine⟨k+1+(B5 (A6 M.W k)).toNat,v++[⟨k,A6 M.W k⟩],a',c',by omega,by omega,by go_num,?_,?_,?_,?_,?_,?_⟩
        ·simp
        ·show A4m _ _ _ _ _;unfold A4m;rw[E8t,Zb];exact HOW.out
        ·show part M.W a to=_;rw[hP.out,HB.out];simp
        ·show (v++[_]).all A8k=true;simp[hA.out];exact HM0.out
        ·refine Below.grown (A0.alloc_ hE.out _) HGR.out (by simp;omega) ?_;intro j hj;exact (hO.out.lt j hj).1
        ·simp;omega
       case measure=>simp[intOf];omega
     ·have HB:=Hz (B0u M.W k to hlt (by rw[hd];simp;omega))
      go_wp2_with (go_at_call 158;refine (C1a _ hq0 hq1 hd _).mono ?_;rintro e w1 ⟨rfl,rfl⟩)
      go_ret2
      have hp:T7 M.W a to=([],false):=by unfold T7;rw[hP.out,HB.out];simp
      rw[hp];exact⟨none,0,rfl,Ze _ _ _ _,hE.out⟩
  ·have HD:=Hz (B4r M.W k to (by omega));go_wp2
   go_ret2
   have hp:T7 M.W a to=(v,true):=by unfold T7;rw[hP.out,HD.out];simp[hA.out]
   rw[hp];exact⟨oa,oc,rfl,hO.out,hE.out⟩
def kN (M:A7):List Ob × Bool:=T7 M.W M.base (M.base+M.top.toNat)
def kO (M:A7):List Ob × Bool:=T7 M.W (2*M.half).toNat ((2*M.half).toNat+M.oldTop.toNat)
def D3j (w:World) (M:A7) (e:Ending) (w':World):Prop :=
 ∃ a c,e=.returned (.tuple #[.slice a ((kN M).1++(kO M).1).length c,.bool ((kN M).2&&(kO M).2)])∧A4m w' w.heap.size a c ((kN M).1++(kO M).1)∧A0 w w'
theorem B7y (W:List Int) (a to:Nat):(T7 W a to).1.length≤to-a:=by
 unfold T7
 split
 ·exact A9n W _ _ _
 ·simp
theorem D0h {w:World} {base:Nat} {a:Option Addr} {c:Nat} {l:List Ob} (h:A4m w base a c l):a=none→c=0:=fun e=>by
 subst e;rcases h.2 with⟨h1,_⟩|⟨g,cap,cur,h1,_⟩
 ·injection h1
 ·cases h1
theorem D0g {w:World} {base:Nat} {a:Option Addr} {c:Nat} {l:List Ob} (h:A4m w base a c l):l.length≤c:=by
 rcases h.2 with⟨h1,h2⟩|⟨g,cap,cur,h1,_,_,h2,_⟩
 ·omega
 ·injection h1 with _ _ h1;omega
theorem D0i {w:World} {base:Nat} {a:Option Addr} {c:Nat} {l:List Ob} (h:A4m w base a c l):F7 w a (Z0 l):=by
 rcases h.2 with⟨h1,h2⟩|⟨g,cap,cur,h1,_,hg,_,_,_,ht⟩
 ·rw[List.length_eq_zero_iff.1 h2];exact F7.nil _ _
 ·injection h1 with h1 _ _;subst h1;intro j u hu;refine⟨g,0,rfl,?_⟩;rw[Nat.zero_add,cell_of_row w g j cur _ _ hg];rw[←ht] at hu;rw[List.getElem?_take] at hu
  split at hu
  ·simpa using hu
  ·cases hu
theorem C9x (u v:List Ob):Z0 (u++v)=Z0 u++Z0 v:=by simp[Z0]
theorem E8s (l:List Ob):∀ u∈Z0 l,u.oneCell'=true:=fun u hu=>by
 obtain⟨o,_,ho⟩:=List.mem_flatMap.1 hu;simp at ho;rcases ho with rfl|rfl|rfl|rfl<;>rfl
theorem E4c (b o:Nat) (M:A7) (S:C8) (hs:G2 M) (w:World) (hM:G8 w b o M S) :
  Calls Zd 78 #[.pointer (some ⟨b,o,none⟩)] w (D3j w M):=by
 obtain⟨i0,hi,hz0,hz1,hz2⟩:=info_parts C6y;obtain⟨hb,b0,b1⟩:=hs.base;have s1:=hs.h1;have s2:=hs.h2;have s3:=hs.t1;have s4:=hs.t2;have s5:=hs.p1;have s6:=hs.p2;have s7:=hs.o2;have s8:=hs.w;have c1:=hM.half;have c2:=hM.top;have c3:=hM.oldTop;have c4:=hM.used;obtain⟨t,ht⟩:∃ t:Nat,M.top=t:=⟨M.top.toNat,by omega⟩;obtain⟨p,hp⟩:∃ p:Nat,M.oldTop=p:=⟨M.oldTop.toNat,by omega⟩;obtain⟨h,hh⟩:∃ h:Nat,M.half=h:=⟨M.half.toNat,by omega⟩;obtain⟨N1,hN1⟩:∃ N1:Nat,N1=M.base+t:=⟨_,rfl⟩;obtain⟨N2,hN2⟩:∃ N2:Nat,N2=2*h:=⟨_,rfl⟩;obtain⟨N3,hN3⟩:∃ N3:Nat,N3=2*h+p:=⟨_,rfl⟩;have eN:kN M=T7 M.W M.base N1:=by unfold kN;rw[ht,hN1];rfl
 have eO:kO M=T7 M.W N2 N3:=by unfold kO;rw[hp,hh,hN2,hN3];rfl
 rw[hh] at c1;rw[ht] at c2;rw[hp] at c3;have w0:IntKind.i64.wrap (M.used*(h:Int))=(M.base:Int):=by rw[←hh,Za _ (by omega)];exact hb
 have w1:IntKind.i64.wrap ((M.base:Int)+(t:Int))=(N1:Int):=by rw[Za _ (by omega)];omega
 have w2:IntKind.i64.wrap (2*(h:Int))=(N2:Int):=by rw[Za _ (by omega)];omega
 have w3:IntKind.i64.wrap ((N2:Int)+(p:Int))=(N3:Int):=by rw[Za _ (by omega)];omega
 have E1:Hid (M.half=(h:Int)):=hh;have E3:Hid (M.oldTop=(p:Int)):=hp;have HM:=Hz hM;have HN:=Hz eN;have HO:=Hz eO;have k1:M.base≤N1∧N1≤M.W.length:=by omega
 have k2:N2≤N3∧N3≤M.W.length:=by omega
 have k3:M.W.length≤196608:=by omega
 obtain⟨k4,k5⟩:=k1;obtain⟨k6,k7⟩:=k2;have l1:=B7y M.W M.base N1;have l2:=B7y M.W N2 N3;have hltb:=hM.lt;clear hM hs eN eO s8 hb ht hp hh hN1 hN2 hN3 b0 b1 s1 s2 s3 s4 s5 s6 s7
 go_enter Tryz.func78,Tryz.ntmps78
 go_wp2;refine wp_region_held_drew (S:=fun W=>W.cell? ⟨b,o+4,none⟩=some (.int .i64 M.used)∧W.cell? ⟨b,o,none⟩=some (.int .i64 (h:Int))∧W.cell? ⟨b,o+5,none⟩=some (.int .i64 (t:Int))) (by kernel_rfl) ?_ (fun hH=>?_)
 ·exact⟨c4,c1,c2⟩
 refine tJ 0 9 rfl ?_
 try simp only[A5]
 refine tJ 1 10 rfl ?_
 try simp only[A5]
 refine tJ 2 11 rfl ?_
 try simp only[A5]
 refine tJ 3 12 rfl ?_
 try simp only[A5]
 refine tJ 4 13 rfl ?_
 try simp only[A5]
 refine tJ 5 14 rfl ?_
 try simp only[A5]
 refine tJ 6 15 rfl ?_
 try simp only[A5]
 refine tJ 7 16 rfl ?_
 try simp only[A5]
 refine tJ 8 17 rfl ?_
 try simp only[A5]
 refine tJ 9 18 rfl ?_
 try simp only[A5]
 refine tJ 10 19 rfl ?_
 try simp only[A5]
 refine tJ 11 20 rfl ?_
 try simp only[A5]
 refine tJ 12 21 rfl ?_
 try simp only[A5]
 refine tJ 13 22 rfl ?_
 try simp only[A5]
 refine tJ 14 23 rfl ?_
 try simp only[A5]
 refine tJ 15 24 rfl ?_
 try simp only[A5]
 refine tJ 16 25 rfl ?_
 try simp only[A5]
 refine tJ 17 26 rfl ?_
 try simp only[A5]
 refine tJ 18 27 rfl ?_
 try simp only[A5]
 refine tJ 19 28 rfl ?_
 try simp only[A5]
 refine tJ 20 29 rfl ?_
 try simp only[A5]
 refine tJ 21 30 rfl ?_
 try simp only[A5]
 refine tJ 22 31 rfl ?_
 try simp only[A5]
 refine tJ 23 32 rfl ?_
 try simp only[A5]
 refine wpAnyH_ready (rs:=[24]) (by kernel_rfl) (by simp) ?_;refine AllReadyH.cons (o:=⟨some 33,_,_,_,_,_⟩) rfl (fun K hK=>?_) AllReadyH.nil;go_simp;refine (C7o b o M S _ (HM.out.ext eX) M.base N1 k5 k3 k4).mono ?_;rintro e w1 ⟨a1,cc1,he,hO1,hq⟩;rw[he];have HE1:Hid (A0 w w1):=A0.trans_ eX hq;have HO1:Hid (A4m w1 w.heap.size a1 cc1 (T7 M.W M.base N1).1):=hO1;have d1:=hq.cell_ hH.1;have d2:=hq.cell_ hH.2.1;have d3:=hq.cell_ hH.2.2;clear hO1 hq he;refine hK.out _ _ ?_ (fun hH=>?_)
 ·(try dsimp only);exact⟨d1,d2,d3⟩
 clear hK K
 try simp only[A5]
 refine tJ 25 8 rfl ?_
 try simp only[A5]
 refine tJ 26 34 rfl ?_
 try simp only[A5]
 refine tJ 27 35 rfl ?_
 try simp only[A5]
 refine tJ 28 4 rfl ?_
 try simp only[A5]
 refine tJ 29 5 rfl ?_
 try simp only[A5]
 refine wpAnyH_done (by kernel_rfl) ?_ _;go_wp2;have hMM:=HM.out.ext HE1.out;have g1:=hMM.half;have g3:=hMM.oldTop;rw[E1.out] at g1;rw[E3.out] at g3;clear hMM hH;refine wp_region_held_drew (S:=fun W=>W.cell? ⟨b,o,none⟩=some (.int .i64 (h:Int))∧W.cell? ⟨b,o+6,none⟩=some (.int .i64 (p:Int))) (by kernel_rfl) ?_ (fun hH=>?_)
 ·exact⟨g1,g3⟩
 refine tJ 0 37 rfl ?_
 try simp only[A5]
 refine tJ 1 38 rfl ?_
 try simp only[A5]
 refine tJ 2 39 rfl ?_
 try simp only[A5]
 refine tJ 3 40 rfl ?_
 try simp only[A5]
 refine tJ 4 41 rfl ?_
 try simp only[A5]
 refine tJ 5 42 rfl ?_
 try simp only[A5]
 refine tJ 6 43 rfl ?_
 try simp only[A5]
 refine tJ 7 44 rfl ?_
 try simp only[A5]
 refine tJ 8 45 rfl ?_
 try simp only[A5]
 refine tJ 9 46 rfl ?_
 try simp only[A5]
 refine tJ 10 47 rfl ?_
 try simp only[A5]
 refine tJ 11 48 rfl ?_
 try simp only[A5]
 refine tJ 12 49 rfl ?_
 try simp only[A5]
 refine tJ 13 50 rfl ?_
 try simp only[A5]
 refine tJ 14 51 rfl ?_
 try simp only[A5]
 refine tJ 15 52 rfl ?_
 try simp only[A5]
 refine wpAnyH_ready (rs:=[16]) (by kernel_rfl) (by simp) ?_;refine AllReadyH.cons (o:=⟨some 53,_,_,_,_,_⟩) rfl (fun K hK=>?_) AllReadyH.nil;go_simp;refine (C7o b o M S _ (HM.out.ext (A0.trans_ HE1.out eX)) N2 N3 k7 k3 k6).mono ?_;rintro e w2 ⟨a2,cc2,he,hO2,hq⟩;rw[he];have HE2:Hid (A0 w1 w2):=A0.trans_ eX hq;have HO2:Hid (A4m w2 w1.heap.size a2 cc2 (T7 M.W N2 N3).1):=hO2;have d4:=hq.cell_ hH.1;have d5:=hq.cell_ hH.2;clear hO2 hq he;refine hK.out _ _ ?_ (fun hH=>?_)
 ·(try dsimp only);exact⟨d4,d5⟩
 clear hK K
 try simp only[A5]
 refine tJ 17 36 rfl ?_
 try simp only[A5]
 refine tJ 18 54 rfl ?_
 try simp only[A5]
 refine tJ 19 55 rfl ?_
 try simp only[A5]
 refine tJ 20 6 rfl ?_
 try simp only[A5]
 refine tJ 21 7 rfl ?_
 try simp only[A5]
 refine wpAnyH_done (by kernel_rfl) ?_ _;have hs1:=HE1.out.size;have hs2:=HE2.out.size;have hO1':A4m w2 w.heap.size a1 cc1 (T7 M.W M.base N1).1:=HO1.out.kept (w':=w2) (row:=none) ⟨HE2.out.os,HE2.out.tape,HE2.out.output,HE2.out.size,fun k hk _=>HE2.out.block k hk⟩ (by
  rcases hv:Value.ownBlock (.slice a1 (T7 M.W M.base N1).1.length cc1) with _|_
  ·exact Or.inl rfl
  ·exact Or.inr (by simp))
 have HO1':=Hz hO1';clear hO1' hH
 go_wp2_with (first
  | (at_builtin;refine A5e rfl _ _ 128 rfl w.heap.size 136 i0 (.agg #[.int .i64 0,.int .i64 0,.int .i64 0,.int .i64 0]) 4 32 D2x hi hz0 hz1 hz2 rfl (by decide) _ (T7 M.W M.base N1).1.length (Z0 (T7 M.W M.base N1).1) rfl HO1'.out a2 (T7 M.W N2 N3).1.length cc2 (Z0 (T7 M.W N2 N3).1) rfl (D0h HO2.out) (D0g HO2.out) (E8r _) (D0i HO2.out) (E8s _) ?c3 ?c4 ?c5 ?_))
 case c3=>unfold maxLen;omega
 case c4=>omega
 case c5=>omega
 intro a' c' w3 hown hgrow hat';have HOW:=Hz hown;have HGR:=Hz hgrow;clear hown hgrow hat'
 cases hr1:(T7 M.W M.base N1).2 with
 | false =>
  have HR1:=Hz hr1;go_wp2
  go_ret2
  refine⟨a',c',?_,?_,?_⟩
  ·rw[HN.out,HO.out,HR1.out,Zb];rfl
  ·unfold A4m;rw[HN.out,HO.out,C9x,Zb];exact HOW.out
  ·exact Below.grown (A0.trans_ HE1.out HE2.out) HGR.out (by omega) (fun j hj=>(HO1'.out.lt j hj).1)
 | true =>
  have HR1:=Hz hr1;go_wp2
  go_ret2
  refine⟨a',c',?_,?_,?_⟩
  ·rw[HN.out,HO.out,HR1.out,Zb];rfl
  ·unfold A4m;rw[HN.out,HO.out,C9x,Zb];exact HOW.out
  ·exact Below.grown (A0.trans_ HE1.out HE2.out) HGR.out (by omega) (fun j hj=>(HO1'.out.lt j hj).1)
end Go.Proofs.YtelhoppfidibiaaGreatDoor
