/- Three walks that the joined base has dropped. -/
import Derived.Test.YtelhoppfidibiaaGreatDoorJTa35
import Derived.Test.YtelhoppfidibiaaGreatDoorJTa34
import Derived.Test.YtelhoppfidibiaaGreatDoorJTa23
import Derived.Test.YtelhoppfidibiaaGreatDoorJTa22
import Derived.Test.YtelhoppfidibiaaGreatDoorJTa29
import Derived.Lib.SmallJoins
import Derived.Lib.AppendIntMem
import Derived.Deep.QuietTactic
import Derived.BigQuiet
import Derived.Lib.OthersKept
import Derived.Test.YtelhoppfidibiaaGreatDoorJTa20
import Derived.Test.YtelhoppfidibiaaGreatDoorJTa01
set_option linter.unusedSimpArgs false
set_option linter.unusedVariables false
set_option maxHeartbeats 4000000
set_option maxRecDepth 100000
namespace Go.Proofs.YtelhoppfidibiaaGreatDoor
open Go.RowKit
theorem numQ_bits (a:Int) (h0:0≤a) (h1:a≤18446744073709551615):wrap64 a/4=numW a:=by
 unfold wrap64 numW;split<;>omega
theorem numQ_any (a:Int) (h0:0≤a) (h1:a≤18446744073709551615) (w:World) :
  Calls Tryz.prog 114 #[.int .u64 a] w fun e w'=>e=.returned (.int .i64 (numW a))∧w'=w:=by
 rw[←numQ_bits a h0 h1]
 go_enter Tryz.func114,Tryz.ntmps114
 go_wp2
 go_ret
 exact⟨rfl,rfl⟩
structure Tabs (w:World):Prop where
 pow:Lib.TabIs Tryz.prog w "internal/strconv.uint64pow10" .u64 Lib.pow10Tab
 tz:Tz16 w
theorem Tabs.ext {w w':World} (h:Tabs w) (hx:Ext w w'):Tabs w':=⟨Lib.tabBelow_of_tabIs h.pow w' hx,hx.cell_ h.tz⟩
theorem ext_grow {w:World} (k:Nat) (os:Array Obj):Ext w (Sort.grow (w.drewN k) os):=by
 refine⟨rfl,rfl,rfl,?_,fun i hi=>?_⟩
 ·show w.heap.size≤(w.heap++os).size
  simp
 ·show (w.heap++os)[i]?=w.heap[i]?
  rw[Array.getElem?_append,if_pos hi]
theorem itoaS_any (n:Int) (h0:-9223372036854775808≤n) (h1:n≤9223372036854775807) (w:World) (ht:Tabs w) :
  Calls Tryz.prog 57 #[.int .i64 n] w fun e w'=>e=.returned (.string (decS n))∧Ext w w':=by
 refine (itoa_any n h0 h1 w ht.pow).mono ?_
 rintro e w' ⟨he,k,os,rfl⟩
 rw[decS_itoa n h0 h1] at he
 exact⟨he,ext_grow k os⟩
theorem fmtS_any (n:Int) (h0:-9223372036854775808≤n) (h1:n≤9223372036854775807) (w:World) (ht:Tabs w) :
  Calls Tryz.prog 58 #[.int .i64 n,.int .i64 10] w fun e w'=>e=.returned (.string (decS n))∧Ext w w':=by
 refine (fmt_any n h0 h1 w ht.pow).mono ?_
 rintro e w' ⟨he,k,os,rfl⟩
 rw[decS_itoa n h0 h1] at he
 exact⟨he,ext_grow k os⟩
theorem mlook_obj (l:List Ob) (p:Int):mlook (numE (ats l)) p=(l.findIdx? fun o=>(o.a:Int)==p).map fun i:Nat=>(i:Int):=by
 have key:∀ (l:List Ob) (n:Nat),((((ats l).zipIdx n).map fun q=>(q.1,(q.2:Int))).find? fun q=>p==q.1).map (·.2)=(l.findIdx? fun o=>(o.a:Int)==p).map fun i:Nat=>((i+n:Nat):Int):=fun l=>by
  induction l with
  | nil=>intro n;rfl
  | cons o l ih =>
   intro n
   have e:ats (o::l)=(o.a:Int)::ats l:=rfl
   rw[e,List.zipIdx_cons,List.map_cons,List.find?_cons,List.findIdx?_cons]
   by_cases h:(o.a:Int)=p
   ·subst h
    simp
   ·have h1:(p==(o.a:Int))=false:=by simpa using fun q:p=(o.a:Int)=>h q.symm
    have h2:((o.a:Int)==p)=false:=by simpa using h
    simp only[h1,h2]
    rw[ih (n+1),if_neg (by decide),Option.map_map]
    congr 1
    funext i
    simp
    omega
 have:=key l 0
 simp only[Nat.add_zero] at this
 exact this
theorem mlook_at {l:List Ob} {p:Int} (h:0≤objAt l p):mlook (numE (ats l)) p=some (objAt l p):=by
 rw[mlook_obj]
 unfold objAt at h ⊢
 cases hf:l.findIdx? fun o=>(o.a:Int)==p with
 | none=>rw[hf] at h;simp at h
 | some i=>rfl
theorem mlook_no {l:List Ob} {p:Int} (h:objAt l p<0):mlook (numE (ats l)) p=none:=by
 rw[mlook_obj]
 unfold objAt at h
 cases hf:l.findIdx? fun o=>(o.a:Int)==p with
 | none=>rfl
 | some i =>
  rw[hf] at h
  simp at h
  omega
theorem numW_in (u:Int) (h0:0≤u) (h1:u≤18446744073709551615):-9223372036854775808≤numW u∧numW u≤9223372036854775807:=by
 unfold numW
 split<;>omega
theorem mTold_any (M:Mem) (hg:goodB M=true) (u:Int) (h0:0≤u) (h1:u≤18446744073709551615) (hf:fldB (startsM M) u=true) (hl:(reachP M).length≤1000000) (mb:Nat) (w:World) (hMp:MapI w mb .i64 (mvE (numE (ats (reachP M))))) (hT:Tabs w) :
  Calls Tryz.prog 55 #[.int .u64 u,.map (some mb)] w fun e w'=>e=.returned (.string (toldS u (reachP M)))∧Ext w w':=by
 have HT:=Lib.hid hT
 clear hT
 by_cases k1:u%4=1
 ·have e:toldS u (reachP M)=decS (numW u):=by unfold toldS;rw[if_pos k1]
  have hk:kindW u=1:=k1
  obtain⟨n0,n1⟩:=numW_in u h0 h1
  rw[e]
  clear e hMp
  go_enter Tryz.func55,Tryz.ntmps55
  go_wp2_with (first
   | (go_at_call 103;refine (kind_any _ h0 h1 _).mono ?_;rintro e w' ⟨he,hw9⟩;rw[hk] at he;subst he;have hw9:=hw9.symm;subst hw9)
   | (go_at_call 114;refine (numQ_any _ h0 h1 _).mono ?_;rintro e w' ⟨rfl,hw9⟩;have hw9:=hw9.symm;subst hw9)
   | (go_at_call 58;refine (fmtS_any _ n0 n1 _ HT.out).mono ?_;rintro e w1 ⟨rfl,hq⟩;have HQ:=Lib.hid hq;clear hq))
  go_ret
  exact⟨rfl,HQ.out⟩
 ·by_cases k2:u%4=2
  ·have hu:u=2∨u=6∨u=10:=by
    unfold fldB kindW at hf
    rw[if_neg (by omega),if_neg (by omega),if_pos k2] at hf
    have:=of_decide_eq_true hf
    omega
   clear hMp hf
   rcases hu with rfl|rfl|rfl
   ·have e:toldS 2 (reachP M)=⟨#[110,111,110,101]⟩:=by unfold toldS;rw[if_neg (by decide),if_pos (by decide)];rfl
    have hk:kindW 2=2:=rfl
    have hix:∀ w:World,(Instr.index 173 (.agg #[.string ⟨#[110,111,110,101]⟩,.string ⟨#[102,97,108,115,101]⟩,.string ⟨#[116,114,117,101]⟩]) (.int .u64 0)).run Tryz.prog w=.ok (.string ⟨#[110,111,110,101]⟩) w:=fun w=>by kernel_rfl
    rw[e]
    clear e
    go_enter Tryz.func55,Tryz.ntmps55
    go_wp2_with (go_at_call 103;refine (kind_any _ h0 h1 _).mono ?_;rintro e w' ⟨he,hw9⟩;rw[hk] at he;subst he;have hw9:=hw9.symm;subst hw9)
    go_ret
    exact⟨rfl,Ext.refl _⟩
   ·have e:toldS 6 (reachP M)=⟨#[102,97,108,115,101]⟩:=by unfold toldS;rw[if_neg (by decide),if_pos (by decide)];rfl
    have hk:kindW 6=2:=rfl
    have hix:∀ w:World,(Instr.index 173 (.agg #[.string ⟨#[110,111,110,101]⟩,.string ⟨#[102,97,108,115,101]⟩,.string ⟨#[116,114,117,101]⟩]) (.int .u64 1)).run Tryz.prog w=.ok (.string ⟨#[102,97,108,115,101]⟩) w:=fun w=>by kernel_rfl
    rw[e]
    clear e
    go_enter Tryz.func55,Tryz.ntmps55
    go_wp2_with (go_at_call 103;refine (kind_any _ h0 h1 _).mono ?_;rintro e w' ⟨he,hw9⟩;rw[hk] at he;subst he;have hw9:=hw9.symm;subst hw9)
    go_ret
    exact⟨rfl,Ext.refl _⟩
   ·have e:toldS 10 (reachP M)=⟨#[116,114,117,101]⟩:=by unfold toldS;rw[if_neg (by decide),if_pos (by decide)];rfl
    have hk:kindW 10=2:=rfl
    have hix:∀ w:World,(Instr.index 173 (.agg #[.string ⟨#[110,111,110,101]⟩,.string ⟨#[102,97,108,115,101]⟩,.string ⟨#[116,114,117,101]⟩]) (.int .u64 2)).run Tryz.prog w=.ok (.string ⟨#[116,114,117,101]⟩) w:=fun w=>by kernel_rfl
    rw[e]
    clear e
    go_enter Tryz.func55,Tryz.ntmps55
    go_wp2_with (go_at_call 103;refine (kind_any _ h0 h1 _).mono ?_;rintro e w' ⟨he,hw9⟩;rw[hk] at he;subst he;have hw9:=hw9.symm;subst hw9)
    go_ret
    exact⟨rfl,Ext.refl _⟩
  ·by_cases hz:u=0
   ·subst hz
    have e:toldS 0 (reachP M)=⟨#[110,111,119,104,101,114,101]⟩:=by unfold toldS;simp
    have hk:kindW 0=0:=rfl
    rw[e]
    clear e hMp
    go_enter Tryz.func55,Tryz.ntmps55
    go_wp2_with (go_at_call 103;refine (kind_any _ h0 h1 _).mono ?_;rintro e w' ⟨he,hw9⟩;rw[hk] at he;subst he;have hw9:=hw9.symm;subst hw9)
    go_ret
    exact⟨rfl,Ext.refl _⟩
   ·have hk:kindW u=0:=by
     unfold fldB at hf
     by_cases q:kindW u=0
     ·exact q
     ·rw[if_neg q,if_neg (show ¬kindW u=1 from k1),if_neg (show ¬kindW u=2 from k2)] at hf
      cases hf
    have hu1:(u==0)=false:=by simpa using hz
    have hp:pointedB u=true:=by
     unfold pointedB
     unfold kindW at hk
     simp[hk,hz]
    have hpt:=pointed_pts hg hf hp
    have ep:ptsW u=placeW u:=by
     unfold ptsW at hpt ⊢
     split at hpt
     ·rename_i hc;rw[if_pos hc]
     ·omega
    have e0:toldS u (reachP M)=if objAt (reachP M) (placeW u)<0 then ⟨#[64]⟩ else ⟨#[64]⟩++decS (objAt (reachP M) (placeW u)):=by
     unfold toldS
     rw[if_neg k1,if_neg k2,if_neg hz,ep]
    rw[e0]
    by_cases hin:objAt (reachP M) (placeW u)<0
    ·rw[if_pos hin]
     have hlk:∀ n,(Instr.lookup 103 (.map (some mb)) (.int .i64 (placeW u)) true).run Tryz.prog (w.drewN n)=.ok (.tuple #[.int .i64 0,.bool false]) (w.drewN n):=fun n=>by
      rw[map_look (hMp.drewN n),mlook_no hin];rfl
     have hlk0:(Instr.lookup 103 (.map (some mb)) (.int .i64 (placeW u)) true).run Tryz.prog w=.ok (.tuple #[.int .i64 0,.bool false]) w:=by
      rw[map_look hMp,mlook_no hin];rfl
     clear hMp hin e0 hp hpt ep hf k1 k2
     go_enter Tryz.func55,Tryz.ntmps55
     go_wp2_with (first
      | (go_at_call 103;refine (kind_any _ h0 h1 _).mono ?_;rintro e w' ⟨he,hw9⟩;rw[hk] at he;subst he;have hw9:=hw9.symm;subst hw9)
      | (go_at_call 104;refine (place_any _ h0 h1 _).mono ?_;rintro e w' ⟨rfl,hw9⟩;have hw9:=hw9.symm;subst hw9))
     go_ret
     exact⟨rfl,Ext.refl _⟩
    ·rw[if_neg hin]
     obtain⟨i,hi⟩:∃ i,i=objAt (reachP M) (placeW u):=⟨_,rfl⟩
     have hii:0≤i∧i<(reachP M).length:=by
      rw[hi]
      unfold objAt at hin ⊢
      cases hfi:(reachP M).findIdx? fun o=>(o.a:Int)==placeW u with
      | none=>rw[hfi] at hin;exact absurd (by decide) hin
      | some j =>
       have:=(List.findIdx?_eq_some_iff_getElem.1 hfi).1
       simp
       omega
     rw[←hi]
     have hlk0:(Instr.lookup 103 (.map (some mb)) (.int .i64 (placeW u)) true).run Tryz.prog w=.ok (.tuple #[.int .i64 i,.bool true]) w:=by
      rw[map_look hMp,mlook_at (by omega),←hi];rfl
     have hds:=decS_size i
     have i0:-9223372036854775808≤i:=by omega
     have i1:i≤9223372036854775807:=by omega
     clear hMp hin e0 hp hpt ep hf k1 k2 hi hii
     go_enter Tryz.func55,Tryz.ntmps55
     go_wp2_with (first
      | (go_at_call 103;refine (kind_any _ h0 h1 _).mono ?_;rintro e w' ⟨he,hw9⟩;rw[hk] at he;subst he;have hw9:=hw9.symm;subst hw9)
      | (go_at_call 104;refine (place_any _ h0 h1 _).mono ?_;rintro e w' ⟨rfl,hw9⟩;have hw9:=hw9.symm;subst hw9)
      | (go_at_call 57;refine (itoaS_any _ i0 i1 _ HT.out).mono ?_;rintro e w1 ⟨rfl,hq⟩;have HQ:=Lib.hid hq;clear hq))
     go_ret
     exact⟨rfl,HQ.out⟩
theorem Bld.lt {B b:Nat} {s:ByteArray} {w:World} (h:Bld B b s w):b<w.heap.size:=by
 rcases h with h|h<;>exact h.lt
theorem Bld.ext {B b:Nat} {s:ByteArray} {w w':World} (h:Bld B b s w) (hx:Ext w w'):Bld B b s w':=by
 have key:∀ p,Lib.BuilderAtF 109 5 B b p (Lib.strCells s) w→Lib.BuilderAtF 109 5 B b p (Lib.strCells s) w':=fun p hp=>by
  have hl:=hp.lt
  obtain⟨hB,v,hb,hown,hne⟩:=hp
  obtain⟨q1,q2,q3,q4,q5⟩:=hx
  exact⟨hB,v,by rw[q5 b hl];exact hb,hown.kept (row:=none) ⟨q1,q2,q3,q4,fun k hk _=>q5 k hk⟩ (by cases hv:v.ownBlock<;>simp),hne⟩
 rcases h with h|h
 ·exact Or.inl (key _ h)
 ·exact Or.inr (key _ h)
theorem bld_new (w:World):Bld w.heap.size w.heap.size ⟨#[]⟩ (w.alloc (.cells #[.pointer none,.slice none 0 0] 109)):=Lib.IsBuilderF.of (Lib.fresh_isBuilder _ _ w)
structure Wrote (b:Nat) (w w':World):Prop where
 below:Below b w w'
 others:Lib.OthersKept 5 (some b) w w'
def hexDigP (n:Nat):UInt8:=if n<10 then UInt8.ofNat (48+n) else UInt8.ofNat (87+n)
def quote1 (c:UInt8):List UInt8 :=
 if c.toNat=10 then [92,110] else if c.toNat=34∨c.toNat=92 then [92,c] else if c.toNat<32∨126<c.toNat then [92,120,hexDigP (c.toNat/16),hexDigP (c.toNat%16)] else [c]
def quotesP (l:List UInt8):List UInt8:=l.flatMap quote1
def quotedP (s:ByteArray):ByteArray:=⟨(34::(quotesP s.data.toList++[34])).toArray⟩
theorem quote1_len (c:UInt8):(quote1 c).length≤4:=by
 unfold quote1
 split
 ·simp
 split
 ·simp
 split<;>simp
theorem quotesP_len:∀ l:List UInt8,(quotesP l).length≤4*l.length
 | []=>by simp[quotesP]
 | c::l=>by
  have h1:=quote1_len c
  have h2:=quotesP_len l
  unfold quotesP at h2 ⊢
  rw[List.flatMap_cons,List.length_append,List.length_cons]
  omega
theorem quotesP_snoc (l:List UInt8) (k:Nat) (hk:k<l.length):quotesP (l.take (k+1))=quotesP (l.take k)++quote1 l[k]:=by
 unfold quotesP
 rw[List.take_add_one,List.getElem?_eq_getElem hk,List.flatMap_append]
 simp
theorem quotedP_size (s:ByteArray):(quotedP s).size≤4*s.size+2:=by
 have:=quotesP_len s.data.toList
 have h2:s.data.toList.length=s.size:=by simp
 show (34::(quotesP s.data.toList++[34])).toArray.size≤_
 simp only[List.size_toArray,List.length_cons,List.length_append,List.length_nil]
 omega
def leW:List Int→Int
 | []=>0
 | b::l=>b+256*leW l
def p8 (n:Nat):Int:=2^(8*n)
theorem p8_zero:p8 0=1:=rfl
theorem p8_succ (n:Nat):p8 (n+1)=256*p8 n:=by
 unfold p8
 rw[show 8*(n+1)=8*n+8 from by omega,Int.pow_add]
 show _*256=_
 omega
theorem p8_pos (n:Nat):0<p8 n:=by
 induction n with
 | zero=>decide
 | succ n ih=>rw[p8_succ];omega
theorem leW_bound:∀ l:List Int,(∀ b∈l,0≤b∧b≤255)→0≤leW l∧leW l<p8 l.length
 | [],_=>by decide
 | b::l,h=>by
  have h1:=leW_bound l fun x hx=>h x (by simp[hx])
  have h2:=h b (by simp)
  have h3:=p8_succ l.length
  simp only[leW,List.length_cons]
  omega
theorem leW_snoc (l:List Int) (c:Int):leW (l++[c])=leW l+c*p8 l.length:=by
 induction l with
 | nil=>simp[leW,p8_zero]
 | cons b l ih =>
  have h3:=p8_succ l.length
  simp only[List.cons_append,leW,List.length_cons,ih,h3]
  rw[Int.mul_add,Int.mul_left_comm]
  omega
def byteW (s:List Int) (i:Nat):Int:=leW ((s.drop (8*i)).take 8)
def bytesW (s:List Int):List Int:=(List.range ((s.length+7)/8)).map (byteW s)
theorem byteW_bound (s:List Int) (h:∀ b∈s,0≤b∧b≤255) (i:Nat):0≤byteW s i∧byteW s i≤18446744073709551615:=by
 have h1:=leW_bound ((s.drop (8*i)).take 8) fun b hb=>h b (List.mem_of_mem_drop (List.mem_of_mem_take hb))
 have hm:∀ a b:Nat,a≤b→p8 a≤p8 b:=fun a b hab=>by
  induction hab with
  | refl=>exact Int.le_refl _
  | @step m _ ih=>have h1:=p8_succ m;have h2:=p8_pos m;simp only[Nat.succ_eq_add_one] at *;omega
 have h2:=hm _ 8 (List.length_take_le 8 (s.drop (8*i)))
 have h3:p8 8=18446744073709551616:=by decide
 unfold byteW;omega
def byteP (s:List Int) (k i:Nat):Int:=leW (((s.take k).drop (8*i)).take 8)
def bytesP (s:List Int) (k m:Nat):List Int:=(List.range m).map (byteP s k)
theorem bytesP_zero (s:List Int) (m:Nat):bytesP s 0 m=List.replicate m 0:=by
 unfold bytesP
 apply List.ext_getElem?
 intro j
 by_cases hj:j<m
 ·simp[hj,byteP,leW]
 ·simp[hj]
theorem bytesP_all (s:List Int):bytesP s s.length ((s.length+7)/8)=bytesW s:=by
 unfold bytesP bytesW byteP byteW
 simp
theorem byteP_bound (s:List Int) (h:∀ b∈s,0≤b∧b≤255) (k i:Nat):0≤byteP s k i∧byteP s k i≤18446744073709551615 :=
 byteW_bound (s.take k) (fun b hb=>h b (List.mem_of_mem_take hb)) i
theorem byteP_here (s:List Int) (k:Nat) (hk:k<s.length):byteP s (k+1) (k/8)=byteP s k (k/8)+s.getD k 0*p8 (k%8):=by
 unfold byteP
 have e1:((s.take (k+1)).drop (8*(k/8))).take 8=(s.take k).drop (8*(k/8))++[s.getD k 0]:=by
  rw[show s.take (k+1)=s.take k++s[k]?.toList from List.take_add_one,List.drop_append_of_le_length (by simp;omega)]
  rw[List.take_of_length_le (by simp[hk];omega)]
  simp[List.getD_eq_getElem?_getD,hk]
 have e2:((s.take k).drop (8*(k/8))).take 8=(s.take k).drop (8*(k/8)):=List.take_of_length_le (by simp;omega)
 have e3:((s.take k).drop (8*(k/8))).length=k%8:=by simp;omega
 rw[e1,e2,leW_snoc,e3]
theorem byteP_there (s:List Int) (k i:Nat) (hk:k<s.length) (hi:i≠k/8):byteP s (k+1) i=byteP s k i:=by
 unfold byteP
 congr 1
 apply List.ext_getElem?
 intro j
 simp only[List.getElem?_take,List.getElem?_drop]
 split
 ·by_cases h:8*i+j<k
  ·rw[if_pos h,if_pos (by omega)]
  ·rw[if_neg h,if_neg (by omega)]
 ·rfl
theorem bytesP_step (s:List Int) (k m:Nat) (hk:k<s.length):(bytesP s k m).set (k/8) (byteP s k (k/8)+s.getD k 0*p8 (k%8))=bytesP s (k+1) m:=by
 apply List.ext_getElem?
 intro j
 unfold bytesP
 rw[List.getElem?_set]
 by_cases hj:j<m
 ·by_cases he:k/8=j
  ·subst he
   simp[hj,byteP_here s k hk]
  ·simp[hj,he,byteP_there s k j hk (fun e=>he e.symm)]
 ·simp[hj];omega
end Go.Proofs.YtelhoppfidibiaaGreatDoor
