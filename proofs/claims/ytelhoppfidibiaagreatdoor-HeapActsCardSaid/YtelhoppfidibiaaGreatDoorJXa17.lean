/- The walk of mem's Reach: its closure, which notes what a word points to. -/
import Derived.Test.YtelhoppfidibiaaGreatDoorJXa11
set_option linter.unusedSimpArgs false
set_option linter.unusedVariables false
set_option maxHeartbeats 8000000
set_option maxRecDepth 100000
namespace Go.Proofs.YtelhoppfidibiaaGreatDoor
open Go.RowKit
open Int renaming add_mul_ediv_right→Za,ediv_eq_zero_of_lt→Zb,ediv_le_self→Zc,ediv_mul_le→Zd,ediv_nonneg→Ze,mul_nonneg→Zf,tdiv_eq_ediv_of_nonneg→Zg
open IntWalk renaming i64_in→Zh
open Go.Proofs.Tryz renaming prog→Zi
def A0a (l:List Int):List (Int × Int):=l.zipIdx.map fun p=>(p.1,(p.2:Int))
theorem E7z (l:List Int) (a:Int):A0a (l++[a])=A0a l++[(a,(l.length:Int))]:=by simp[A0a,List.zipIdx_append]
theorem C9d (l:List Int):(A0a l).map (·.1)=l:=by
 unfold A0a;rw[List.map_map];have:((fun p:Int × Int=>p.1)∘fun p:Int × Nat=>(p.1,(p.2:Int)))=Prod.fst:=rfl;rw[this,List.zipIdx_map_fst]
theorem C9e {l:List Int} {a:Int} (h:F8 l a=false):K0 (A0a l) a=none:=by
 unfold K0
 cases hf:(A0a l).find? (fun p=>a==p.1) with
 | none=>rfl
 | some q =>
  exfalso;have h1:=List.find?_some hf;have h2:=List.mem_of_find?_eq_some hf;have h3:q.1∈l:=by rw[←C9d l];exact List.mem_map_of_mem (f:=(·.1)) h2
  have e:a=q.1:=by simpa using h1
  have:F8 l a=true:=by unfold F8;rw[List.contains_iff_mem,e];exact h3
  rw[h] at this;cases this
theorem C9f {l:List Int} {a:Int} (h:F8 l a=true):∃ i,K0 (A0a l) a=some i:=by
 unfold K0
 cases hf:(A0a l).find? (fun p=>a==p.1) with
 | some q=>exact⟨q.2,rfl⟩
 | none =>
  exfalso;unfold F8 at h;rw[List.contains_iff_mem,←C9d l] at h;obtain⟨p,hp,e⟩:=List.mem_map.1 h;have:=List.find?_eq_none.1 hf p hp;rw[←e] at this;simp at this
structure A1p (w:World) (B fb nb mb:Nat) (l:List Int) (v:Value):Prop where
 fr:A0l w B fb l v
 nB:B≤nb
 nblk:∃ cur t,w.heap[nb]?=some (.cells cur t (0,0))
 ncell:w.cell? ⟨nb,0,none⟩=some (.map (some mb))
 mB:B≤mb
 map:N8 w mb .i64 (mvE (A0a l))
 nf:nb≠fb
 mf:mb≠fb
 mn:mb≠nb
 vn:v.ownBlock≠some nb
 vm:v.ownBlock≠some mb
def B3a (fb mb:Nat) (v:Value) (k:Nat):Prop:=k=fb∨k=mb∨v.ownBlock=some k
theorem A1p.nlt {w:World} {B fb nb mb:Nat} {l:List Int} {v:Value} (h:A1p w B fb nb mb l v):nb<w.heap.size:=by obtain⟨cur,t,hc⟩:=h.nblk;exact lt_of_block hc
theorem A1p.ext {w w':World} {B fb nb mb:Nat} {l:List Int} {v:Value} (h:A1p w B fb nb mb l v) (hx:A0 w w'):A1p w' B fb nb mb l v :=
 ⟨h.fr.ext hx,h.nB,by rw[Below.block hx _ h.nlt];exact h.nblk,hx.cell_ h.ncell,h.mB,h.map.ext hx,h.nf,h.mf,h.mn,h.vn,h.vm⟩
theorem A1p.own {w:World} {B fb nb mb:Nat} {l:List Int} {v:Value} (h:A1p w B fb nb mb l v) {k:Nat} (hk:B3a fb mb v k):B≤k∧k<w.heap.size:=by
 rcases hk with rfl|rfl|hk
 ·exact⟨h.fr.hb,h.fr.lt⟩
 ·exact⟨h.mB,h.map.lt⟩
 ·exact h.fr.row.lt hk
def B5o (w:World) (B fb nb mb:Nat) (v:Value) (l:List Int) (e:Ending) (w':World):Prop :=
 e=.returned (.tuple #[])∧∃ v',A1p w' B fb nb mb l v'∧A8 (B3a fb mb v) w w'∧∀ k,v'.ownBlock=some k→v.ownBlock=some k∨w.heap.size≤k
def B6a (l:List Int) (u:Int):List Int:=if C7 u≠0∨u=0 then l else if F8 l (C9 u)=true then l else l++[C9 u]
theorem C9h {w:World} {B fb nb mb:Nat} {l:List Int} {v:Value} (h:A1p w B fb nb mb l v) (k:Int) :
  (Instr.lookup 103 (.map (some mb)) (.int .i64 k) true).run Zi w=.ok (.tuple #[((K0 (A0a l) k).map (.int .i64 ·)).getD (.int .i64 0),.bool (K0 (A0a l) k).isSome]) w:=by
 rw[B4w B1b A8r (C3m w) h.map k true,C1p]
 cases K0 (A0a l) k<;>rfl
theorem D7v (u:Int) (h0:0≤u) (h1:u≤18446744073709551615) (B fb nb mb:Nat) (l:List Int) (v:Value) (w:World) (h:A1p w B fb nb mb l v) (hk:C7 u≠0∨u=0) :
  Calls Zi 112 #[.int .u64 u,.pointer (some ⟨nb,0,none⟩),.pointer (some ⟨fb,0,none⟩)] w (B5o w B fb nb mb v l):=by
 have HH:=Hz h;clear h;by_cases hk0:C7 u=0
 ·have hu:u=0:=by omega
  subst hu;have hk1:(C7 0==0)=true:=by decide
  go_enter Tryz.func112,Tryz.ntmps112
  go_wp2_with (go_at_call 103;refine (O8 _ h0 h1 _).mono ?_;rintro e w' ⟨rfl,rfl⟩)
  first|go_end0|refine bodyPost_ret (results_none rfl _ _ _) rfl ?_
  exact⟨rfl,v,HH.out,A8.refl _ _,fun k hk=>Or.inl hk⟩
 ·have hk1:(C7 u==0)=false:=by simpa using hk0
  clear hk
  go_enter Tryz.func112,Tryz.ntmps112
  go_wp2_with (go_at_call 103;refine (O8 _ h0 h1 _).mono ?_;rintro e w' ⟨rfl,rfl⟩)
  first|go_end0|refine bodyPost_ret (results_none rfl _ _ _) rfl ?_
  exact⟨rfl,v,HH.out,A8.refl _ _,fun k hk=>Or.inl hk⟩
theorem D7t (u:Int) (h0:0≤u) (h1:u≤18446744073709551615) (B fb nb mb:Nat) (l:List Int) (v:Value) (w:World) (h:A1p w B fb nb mb l v) (hk:C7 u=0) (hu:u≠0) (hi:F8 l (C9 u)=true) :
  Calls Zi 112 #[.int .u64 u,.pointer (some ⟨nb,0,none⟩),.pointer (some ⟨fb,0,none⟩)] w (B5o w B fb nb mb v l):=by
 have HH:=Hz h;have hk1:(C7 u==0)=true:=by simpa using hk
 have hu1:(u==0)=false:=by simpa using hu
 obtain⟨i,hm⟩:=C9f hi;have hlk:=C9h h (C9 u);rw[hm] at hlk;simp only[Option.map_some,Option.getD_some,Option.isSome_some] at hlk;have hc:=h.ncell;clear h hi hm
 go_enter Tryz.func112,Tryz.ntmps112
 go_wp2_with (first
  | (go_at_call 103;refine (O8 _ h0 h1 _).mono ?_;rintro e w' ⟨rfl,hw9⟩;have hw9:=hw9.symm;subst hw9)
  | (go_at_call 104;refine (A0h _ h0 h1 _).mono ?_;rintro e w' ⟨rfl,hw9⟩;have hw9:=hw9.symm;subst hw9))
 first|go_end0|refine bodyPost_ret (results_none rfl _ _ _) rfl ?_
 exact⟨rfl,v,HH.out,A8.refl _ _,fun k hk=>Or.inl hk⟩
theorem D7u (u:Int) (h0:0≤u) (h1:u≤18446744073709551615) (B fb nb mb:Nat) (l:List Int) (v:Value) (w:World) (h:A1p w B fb nb mb l v) (hk:C7 u=0) (hu:u≠0) (hi:F8 l (C9 u)=false) (hl:l.length≤1000000) :
  Calls Zi 112 #[.int .u64 u,.pointer (some ⟨nb,0,none⟩),.pointer (some ⟨fb,0,none⟩)] w (B5o w B fb nb mb v (l++[C9 u])):=by
 have hk1:(C7 u==0)=true:=by simpa using hk
 have hu1:(u==0)=false:=by simpa using hu
 have hm:=C9e hi;have hlk:=C9h h (C9 u);rw[hm] at hlk;simp only[Option.map_none,Option.getD_none,Option.isSome_none] at hlk;obtain⟨i0,hif,hz0,hz1,hz2⟩:=info_parts B6y;have htl:(K6 l).length=l.length:=by simp[K6]
 obtain⟨w7,hrun7,hm7,hb7⟩:=B2l (P:=Zi) B1b A8r h.map (C9 u) (.int .i64 (l.length:Int));rw[C1t _ _ _ hm,←E7z] at hm7;have hK7:A8 (·=mb) w w7:=A8.of_but hb7;have h7:A0l w7 B fb l v:=⟨h.fr.hb,by rw[hK7.block _ h.fr.lt (fun e=>h.mf e.symm)];exact h.fr.blk,hK7.cell (p:=⟨fb,0,none⟩) (fun e=>h.mf e.symm) h.fr.cell,h.fr.row.keep hK7 (fun g hg e=>h.vm (by rw[hg,e])),h.fr.no⟩;obtain⟨v9,w9,hrun9,ht9,hg9,hv9⟩:=B2k (P:=Zi) (w:=w7.alloc (.cells #[.int .i64 (C9 u)] 3)) 22 22 B 3 i0 (.int .i64 0) 8 B5g hif hz0 hz1 hz2 rfl v (K6 l) (h7.row.ext ((A0.refl _).alloc_ _)) ⟨w7.heap.size,0,none⟩ 1 (.int .i64 (C9 u)) (by simp[go_sem]) rfl (by rw[htl];unfold maxLen;omega) (by rw[htl];omega) (by have:=h7.hb;have:=h7.lt;simp;omega);obtain⟨a9,n9,c9,rfl⟩:=ht9.slice;have hlen:∃ ta tc,v=.slice ta l.length tc:=by
  rcases h.fr.row with⟨rfl,e⟩|⟨g,off,cap,cur,rfl,_⟩
  ·have:l.length=0:=by rw[←htl,e];rfl
   exact⟨none,0,by rw[this]⟩
  ·exact⟨some ⟨g,off,none⟩,cap,by rw[htl]⟩
 obtain⟨ta,tc,rfl⟩:=hlen;have hK9:A8 (fun k=>(Value.slice ta l.length tc).ownBlock=some k) w7 w9:=((A8.refl _ w7).alloc_ _).trans (A8.of_grown hg9 fun k hk=>Or.inl hk);have y0:w9.cell? ⟨fb,0,none⟩=some (.slice ta l.length tc):=hK9.cell (p:=⟨fb,0,none⟩) h7.no h7.cell;have yf:w9.frozen? ⟨fb,0,none⟩=false:=by rw[hK9.frozen (p:=⟨fb,0,none⟩) h7.no h7.lt];exact h7.frozen 0
 have hsz7:w7.heap.size=w.heap.size:=hb7.size;have hv9':∀ k,(Value.slice a9 n9 c9).ownBlock=some k→(Value.slice ta l.length tc).ownBlock=some k∨w.heap.size≤k:=fun k hk=>by
  rcases hv9 k hk with q|q
  ·exact Or.inl q
  ·exact Or.inr (by simp at q;omega)
 have hflt:=h.fr.lt;have hnlt:=h.nlt;have hmlt:=h.map.lt;have hno:(Value.slice a9 n9 c9).ownBlock≠some fb:=fun e=>by
  rcases hv9' fb e with q|q
  ·exact h.fr.no q
  ·omega
 have hno2:(Value.slice a9 n9 c9).ownBlock≠some nb:=fun e=>by
  rcases hv9' nb e with q|q
  ·exact h.vn q
  ·omega
 have hno3:(Value.slice a9 n9 c9).ownBlock≠some mb:=fun e=>by
  rcases hv9' mb e with q|q
  ·exact h.vm q
  ·omega
 have hfin:A0l (w9.setCell ⟨fb,0,none⟩ (.slice a9 n9 c9)) B fb (l++[C9 u]) (.slice a9 n9 c9) :=
  ⟨h.fr.hb,A3g (by rw[hK9.block _ h7.lt h7.no];exact h7.blk),A1c y0,I9.kept (by simpa [K6] using ht9) (fun g hg=>heap_setCell_other w9 _ g _ (fun e=>hno (by rw[←show g=fb from e];exact hg))),hno⟩
 have hKA:A8 (B3a fb mb (.slice ta l.length tc)) w (w9.setCell ⟨fb,0,none⟩ (.slice a9 n9 c9)) :=
  A8.set_ (L:=B3a fb mb (.slice ta l.length tc)) ((hK7.sub fun k hk=>Or.inr (Or.inl hk)).trans (hK9.sub fun k hk=>Or.inr (Or.inr hk))) (p:=⟨fb,0,none⟩) (Or.inl (Or.inl rfl)) _
 have hnN:¬B3a fb mb (.slice ta l.length tc) nb:=fun e=>by
  rcases e with e|e|e
  ·exact h.nf e
  ·exact h.mn e.symm
  ·exact h.vn e
 have hmap9:N8 w9 mb .i64 (mvE (A0a (l++[C9 u]))):=hm7.of_block (hK9.block mb (by omega) h.vm);have hmap:N8 (w9.setCell ⟨fb,0,none⟩ (.slice a9 n9 c9)) mb .i64 (mvE (A0a (l++[C9 u]))):=hmap9.setCell _ _;have hN:A1p (w9.setCell ⟨fb,0,none⟩ (.slice a9 n9 c9)) B fb nb mb (l++[C9 u]) (.slice a9 n9 c9) :=
  ⟨hfin,h.nB,by rw[hKA.block _ hnlt hnN];exact h.nblk,hKA.cell (p:=⟨nb,0,none⟩) hnN h.ncell,h.mB,hmap,h.nf,h.mf,h.mn,hno2,hno3⟩
 have c0:=h.fr.cell;have c1:=h.ncell;have c7:=h7.cell;have HN:=Hz hN;have HK:=Hz hKA;have HV:=Hz hv9';have HRUN:=Hz hrun9;clear h hi hm hif hz0 hz1 hz2 htl hm7 hb7 hK7 h7 hrun9 ht9 hg9 hv9 hK9 hv9' hno hno2 hno3 hfin hKA hnN hmap9 hmap hN hsz7
 go_enter Tryz.func112,Tryz.ntmps112
 go_wp2_with (first
  | (go_at_call 103;refine (O8 _ h0 h1 _).mono ?_;rintro e w' ⟨rfl,hw9⟩;have hw9:=hw9.symm;subst hw9)
  | (go_at_call 104;refine (A0h _ h0 h1 _).mono ?_;rintro e w' ⟨rfl,hw9⟩;have hw9:=hw9.symm;subst hw9)
  | (at_builtin;refine B5j rfl _ _ 22 rfl (.slice ta l.length tc) _ rfl rfl HRUN.out ?_))
 first|go_end0|refine bodyPost_ret (results_none rfl _ _ _) rfl ?_
 exact⟨rfl,_,HN.out,HK.out,HV.out⟩
theorem C4l (u:Int) (h0:0≤u) (h1:u≤18446744073709551615) (B fb nb mb:Nat) (l:List Int) (v:Value) (w:World) (h:A1p w B fb nb mb l v) (hl:l.length≤1000000) :
  Calls Zi 112 #[.int .u64 u,.pointer (some ⟨nb,0,none⟩),.pointer (some ⟨fb,0,none⟩)] w (B5o w B fb nb mb v (B6a l u)):=by
 unfold B6a;by_cases hk:C7 u≠0∨u=0
 ·rw[if_pos hk];exact D7v u h0 h1 B fb nb mb l v w h hk
 ·rw[if_neg hk];by_cases hi:F8 l (C9 u)=true
  ·rw[if_pos hi];exact D7t u h0 h1 B fb nb mb l v w h (by omega) (by omega) hi
  ·rw[if_neg hi];exact D7u u h0 h1 B fb nb mb l v w h (by omega) (by omega) (by simpa using hi) hl
theorem F8i:Zi.underlying 107=some (.slice 5):=by kernel_rfl
def A0o (n:Int):ByteArray:=strOfNums [n%256]
def A4c:Nat→Int→ByteArray
 | 0,n=>A0o (48-n)
 | f+1,n=>if -10<n then A0o (48-n) else A4c f (n.tdiv 10)++A0o (48-n.tmod 10)
def P8 (n:Int):ByteArray:=if n<0 then ⟨#[45]⟩++A4c 20 n else A4c 20 (-n)
theorem A6t (n:Int) (w:World):Calls Zi 122 #[.int .i64 n] w fun e w'=>e=.returned (.string (A0o n))∧A0 w w':=by
 have hconv:=run_convert_bytes_arg (P:=Zi) (w.alloc (.cells #[.int .u8 (n%256)] 5)) 107 5 F8i (by kernel_rfl) w.heap.size 0 1 1 [n%256] rfl (fun i hi=>by
  obtain rfl:i=0:=by omega
  simp[go_sem]) 9 (by kernel_rfl)
 go_enter Tryz.func122,Tryz.ntmps122
 go_wp2;go_ret;exact⟨rfl,(A0.refl w).alloc_ _⟩
theorem B1n (n:Int):(A0o n).size=1:=by unfold A0o;rw[strOfNums_size];rfl
theorem B3i:∀ (f:Nat) (n:Int),(A4c f n).size≤f+1
 | 0,n=>by simp[A4c,B1n]
 | f+1,n=>by
  unfold A4c
  split
  ·rw[B1n];omega
  ·rw[ByteArray.size_append,B1n];have:=B3i f (n.tdiv 10);omega
theorem A5k (n:Int):(P8 n).size≤22:=by
 unfold P8
 split
 ·rw[ByteArray.size_append];have:=B3i 20 n;have e:(⟨#[45]⟩:ByteArray).size=1:=rfl;omega
 ·have:=B3i 20 (-n);omega
theorem D2e (n:Int) (h:n≤0):n.tdiv 10=-((-n)/10):=by
 have h1:(-n).tdiv 10=(-n)/10:=Zg (by omega);rw[←h1,Int.neg_tdiv,Int.neg_neg]
theorem B9q:∀ (f:Nat) (n:Int),f≤20→n≤0→-9223372036854775808≤n→-(10^(f+1):Int)<n→∀ w:World,Calls Zi 121 #[.int .i64 n] w fun e w'=>e=.returned (.string (A4c f n))∧A0 w w'
 | f,n,hf,h0,h1,h2,w=>by
  by_cases hq:-10<n
  ·have e:A4c f n=A0o (48-n):=by cases f<;>simp[A4c,hq]
   have e1:IntKind.i64.wrap (48-n)=48-n:=Zh _ (by omega);rw[e];clear h2
   go_enter Tryz.func121,Tryz.ntmps121
   go_wp2_with (go_at_call 122;refine (A6t _ _).mono ?_;rintro e w1 ⟨rfl,hq1⟩;have HX1:=Hz hq1;clear hq1)
   go_ret;exact⟨rfl,HX1.out⟩
  ·obtain⟨f,rfl⟩:∃ f',f=f'+1:=by
    cases f with
    | zero=>exact absurd h2 (by simp;omega)
    | succ f=>exact⟨f,rfl⟩
   have e:A4c (f+1) n=A4c f (n.tdiv 10)++A0o (48-n.tmod 10):=by simp[A4c,hq]
   have hd:=D2e n h0;have hm:n.tmod 10=n-10*n.tdiv 10:=Int.tmod_def n 10;have hp:(10:Int)^(f+1+1)=10*10^(f+1):=by rw[Int.pow_succ];omega
   rw[hp] at h2;have hz:=B3i f (n.tdiv 10);have hz1:=B1n (48-n.tmod 10);have ih:=B9q f (n.tdiv 10) (by omega) (by omega) (by omega) (by rw[hd];omega);rw[e];have e1:IntKind.i64.wrap (48-n.tmod 10)=48-n.tmod 10:=Zh _ (by omega);have e2:IntKind.i64.wrap (n.tdiv 10)=n.tdiv 10:=Zh _ (by omega);have e3:IntKind.i64.wrap (n.tmod 10)=n.tmod 10:=Zh _ (by omega);have IH:=Hz ih;clear hd hm hp h2 ih e
   go_enter Tryz.func121,Tryz.ntmps121
   go_wp2_with (first
    | (go_at_call 121;refine (IH.out _).mono ?_;rintro e w1 ⟨rfl,hq1⟩;have HX1:=Hz hq1;clear hq1)
    | (go_at_call 122;refine (A6t _ _).mono ?_;rintro e w2 ⟨rfl,hq1⟩;have HX2:=Hz hq1;clear hq1))
   go_ret;exact⟨rfl,HX1.out.trans_ HX2.out⟩
def D8m:ByteArray:=⟨#[48,49,50,51,52,53,54,55,56,57,97,98,99,100,101,102]⟩
def B6r:Nat→Int→ByteArray→ByteArray
 | 0,_,out=>out
 | f+1,a,out=>B6r f (a/16) (D8m.extract (a%16).toNat ((a%16).toNat+1)++out)
def C0r (a:Int):ByteArray:=B6r 16 a ⟨#[]⟩
theorem C6i:∀ (f:Nat) (a:Int) (o:ByteArray),(B6r f a o).size≤o.size+f
 | 0,a,o=>Nat.le_refl _
 | f+1,a,o=>by
  unfold B6r;refine Nat.le_trans (C6i f _ _) ?_;rw[ByteArray.size_append,ByteArray.size_extract];omega
theorem E2h (a:Int):(C0r a).size≤16:=by
 have:=C6i 16 a ⟨#[]⟩;have e:(⟨#[]⟩:ByteArray).size=0:=rfl;unfold C0r;omega
def B3m (k:Nat):ByteArray:=[⟨#[110,111,110,101]⟩,⟨#[102,97,108,115,101]⟩,⟨#[116,114,117,101]⟩].getD k ⟨#[]⟩
def T4 (a:Int) (l:List Ob):ByteArray :=
 if a%4=1 then P8 (A2l a) else if a%4=2 then B3m (a/4).toNat else if a=0 then ⟨#[110,111,119,104,101,114,101]⟩ else
 if L9 l (B6 a)<0 then ⟨#[64]⟩ else ⟨#[64]⟩++P8 (L9 l (B6 a))
theorem A9x (a:Int) (l:List Ob):(T4 a l).size≤30:=by
 unfold T4
 split
 ·have:=A5k (A2l a);omega
 ·split
  ·unfold B3m;rcases Nat.lt_or_ge (a/4).toNat 3 with h|h
   ·have hh:(a/4).toNat=0∨(a/4).toNat=1∨(a/4).toNat=2:=by omega
    rcases hh with q|q|q<;>rw[q]<;>decide
   ·rw[List.getD_eq_getElem?_getD,List.getElem?_eq_none (by simpa using h)];decide
  ·split
   ·decide
   ·split
    ·decide
    ·rw[ByteArray.size_append];have:=A5k (L9 l (B6 a));have e:(⟨#[64]⟩:ByteArray).size=1:=rfl;omega
theorem B9v (a c:Int) (ha:1≤a) (hc:1≤c):(a+c-1)/c=if a/c*c<a then a/c+1 else a/c:=by
 have h1:a=c*(a/c)+a%c:=(Int.mul_ediv_add_emod a c).symm;have h2:=Int.emod_nonneg a (show c≠0 by omega);have h3:=Int.emod_lt_of_pos a (show 0<c by omega);have h4:a/c*c=c*(a/c):=Int.mul_comm _ _;generalize hq:a/c=q at *
 generalize hr:a%c=r at *
 have h5:(a+c-1)=(r+c-1)+q*c:=by rw[h4];omega
 rw[h5,Za _ _ (show c≠0 by omega)];by_cases h:r=0
 ·have:(r+c-1)/c=0:=Zb (by omega) (by omega);rw[this,if_neg (by rw[h4];omega)];omega
 ·have:(r+c-1)/c=1:=by
   rw[show r+c-1=(r-1)+1*c by omega,Za _ _ (show c≠0 by omega),Zb (by omega) (by omega)];rfl
  rw[this,if_pos (by rw[h4];omega)];omega
theorem E4i (b o:Nat) (M:A7) (S:C8) (hs:G2 M) (w:World) (hM:G8 w b o M S) :
  Calls Zi 77 #[.pointer (some ⟨b,o,none⟩)] w fun e w'=>e=.returned (.bool true)∧A0 w w':=by
 obtain⟨h1,h2,o1,o2,c1,c2,hw,u1,u2,t1,t2,p1,p2,cl⟩:=hs;have n0:=hM.half;have n1:=hM.old;have n2:=hM.card;have n3:=hM.W;have n4:=hM.used;have n5:=hM.top;have n6:=hM.oldTop;have n10:=hM.cards;have hl:=hM.ok.lenW;have hl2:=hM.ok.lenC;have e1:M.old.tdiv M.card=M.old/M.card:=Zg (by omega);have q0:0≤M.old/M.card:=Ze (by omega) (by omega);have q1:M.old/M.card≤M.old:=Zc _ (by omega);have q2:M.old/M.card*M.card≤M.old:=Zd _ (by omega);have q3:0≤M.old/M.card*M.card:=Zf q0 (by omega);have hcl:=cl;rw[B9v _ _ o1 c1] at hcl;clear cl;generalize M.old/M.card=q at *
 have e2:IntKind.i64.wrap q=q:=Zh _ (by omega);have e3:IntKind.i64.wrap (q*M.card)=q*M.card:=Zh _ (by omega);have e4:IntKind.i64.wrap (2*M.half)=2*M.half:=Zh _ (by omega);have e5:IntKind.i64.wrap (2*M.half+M.old)=2*M.half+M.old:=Zh _ (by omega);have e6:¬M.card=0:=by omega
 have e7:(M.card==0)=false:=by simp;omega
 have d1:((M.W.length:Int) != 2*M.half+M.old)=false:=by simp;exact hw
 have d3:decide (M.used<0)=false:=by simp;omega
 have d4:decide (1<M.used)=false:=by simp;omega
 have d5:decide (0≤M.top)=true:=by simp;omega
 have d6:decide (M.top≤M.half)=true:=by simp;omega
 have d8:decide (M.oldTop≤M.old)=true:=by simp;omega
 have d7:decide (0≤M.oldTop)=true:=by simp;omega
 have HW:=Hz hw;clear hw;by_cases hlt:q*M.card<M.old
 ·rw[if_pos hlt] at hcl;have d2:((M.cards.length:Int) != q+1)=false:=by simp;exact hcl
  have HCL:=Hz hcl;clear hcl hM
  go_enter Tryz.func77,Tryz.ntmps77
  go_wp2
  go_quiet (fail)
  go_wp2
  go_quiet (fail)
  go_wp2
  go_quiet (fail)
  go_wp2
  go_quiet (fail)
  go_wp2;go_ret;refine⟨by simp[d8],?_⟩
  repeat (first|exact A0.refl _|(refine A0.drewN_ ?_ _))
 ·rw[if_neg hlt] at hcl;have d2:((M.cards.length:Int) != q)=false:=by simp;exact hcl
  have HCL:=Hz hcl;clear hcl hM
  go_enter Tryz.func77,Tryz.ntmps77
  go_wp2
  go_quiet (fail)
  go_wp2
  go_quiet (fail)
  go_wp2
  go_quiet (fail)
  go_wp2
  go_quiet (fail)
  go_wp2;go_ret;refine⟨by simp[d8],?_⟩
  repeat (first|exact A0.refl _|(refine A0.drewN_ ?_ _))
theorem B1z (b o:Nat) (M:A7) (S:C8) (w:World) (hM:G8 w b o M S)
  (h:M.half<1∨(¬M.half<1∧65536<M.half)∨(¬M.half<1∧¬65536<M.half∧M.old<1)∨(¬M.half<1∧¬65536<M.half∧¬M.old<1∧65536<M.old)
   ∨ (¬M.half<1∧¬65536<M.half∧¬M.old<1∧¬65536<M.old∧M.card<1)∨(¬M.half<1∧¬65536<M.half∧¬M.old<1∧¬65536<M.old∧¬M.card<1∧1024<M.card)) :
  Calls Zi 77 #[.pointer (some ⟨b,o,none⟩)] w fun e w'=>e=.returned (.bool false)∧A0 w w':=by
 have n0:=hM.half;have n1:=hM.old;have n2:=hM.card;clear hM;rcases h with h|⟨h1,h⟩|⟨h1,h2,h⟩|⟨h1,h2,h3,h⟩|⟨h1,h2,h3,h4,h⟩|⟨h1,h2,h3,h4,h5,h⟩
 all_goals
  go_enter Tryz.func77,Tryz.ntmps77
  go_wp2;go_ret;exact⟨rfl,A0.refl _⟩
theorem B7c (b o:Nat) (M:A7) (S:C8) (w:World) (hM:G8 w b o M S) (h1:1≤M.half) (h2:M.half≤65536) (o1:1≤M.old) (o2:M.old≤65536) (c1:1≤M.card) (c2:M.card≤1024)
  (h:¬(M.W.length:Int)=2*M.half+M.old∨((M.W.length:Int)=2*M.half+M.old∧¬(M.cards.length:Int)=(M.old+M.card-1)/M.card)∨((M.W.length:Int)=2*M.half+M.old∧(M.cards.length:Int)=(M.old+M.card-1)/M.card∧M.used<0) ∨
   ((M.W.length:Int)=2*M.half+M.old∧(M.cards.length:Int)=(M.old+M.card-1)/M.card∧¬M.used<0∧1<M.used)) :
  Calls Zi 77 #[.pointer (some ⟨b,o,none⟩)] w fun e w'=>e=.returned (.bool false)∧A0 w w':=by
 have n0:=hM.half;have n1:=hM.old;have n2:=hM.card;have n3:=hM.W;have n4:=hM.used;have n10:=hM.cards;have hl:=hM.ok.lenW;have hl2:=hM.ok.lenC;have e1:M.old.tdiv M.card=M.old/M.card:=Zg (by omega);have q0:0≤M.old/M.card:=Ze (by omega) (by omega);have q1:M.old/M.card≤M.old:=Zc _ (by omega);have q2:M.old/M.card*M.card≤M.old:=Zd _ (by omega);have q3:0≤M.old/M.card*M.card:=Zf q0 (by omega);rw[B9v _ _ o1 c1] at h;generalize M.old/M.card=q at *
 have e2:IntKind.i64.wrap q=q:=Zh _ (by omega);have e3:IntKind.i64.wrap (q*M.card)=q*M.card:=Zh _ (by omega);have e4:IntKind.i64.wrap (2*M.half)=2*M.half:=Zh _ (by omega);have e5:IntKind.i64.wrap (2*M.half+M.old)=2*M.half+M.old:=Zh _ (by omega);have e6:¬M.card=0:=by omega
 have e7:(M.card==0)=false:=by simp;omega
 clear hM;obtain⟨z,hz⟩:∃ z:Int,z=if q*M.card<M.old then q+1 else q:=⟨_,rfl⟩
 rw[←hz] at h;by_cases hlt:q*M.card<M.old
 ·rw[if_pos hlt] at hz;rw[hz] at h;clear hz;have h':((M.W.length:Int) != 2*M.half+M.old)=true∨(((M.W.length:Int) != 2*M.half+M.old)=false∧((M.cards.length:Int) != q+1)=true)∨(((M.W.length:Int) != 2*M.half+M.old)=false∧((M.cards.length:Int) != q+1)=false∧decide (M.used<0)=true) ∨
   (((M.W.length:Int) != 2*M.half+M.old)=false∧((M.cards.length:Int) != q+1)=false∧decide (M.used<0)=false∧decide (1<M.used)=true):=by
   rcases h with h|⟨a1,h⟩|⟨a1,a2,h⟩|⟨a1,a2,a3,h⟩
   ·exact Or.inl (by simpa using h)
   ·exact Or.inr (Or.inl ⟨by simpa using a1,by simpa using h⟩)
   ·exact Or.inr (Or.inr (Or.inl ⟨by simpa using a1,by simpa using a2,by simpa using h⟩))
   ·exact Or.inr (Or.inr (Or.inr ⟨by simpa using a1,by simpa using a2,by simpa using a3,by simpa using h⟩))
  clear h;rcases h' with d1|⟨d1,d2⟩|⟨d1,d2,d3⟩|⟨d1,d2,d3,d4⟩
  all_goals
   go_enter Tryz.func77,Tryz.ntmps77
   go_wp2
   go_quiet (fail)
   go_wp2
   go_quiet (fail)
   go_wp2
   go_quiet (fail)
   go_wp2;go_ret;exact⟨rfl,by repeat (first|exact A0.refl _|(refine A0.drewN_ ?_ _))⟩
 ·rw[if_neg hlt] at hz;rw[hz] at h;clear hz;have h':((M.W.length:Int) != 2*M.half+M.old)=true∨(((M.W.length:Int) != 2*M.half+M.old)=false∧((M.cards.length:Int) != q)=true)∨(((M.W.length:Int) != 2*M.half+M.old)=false∧((M.cards.length:Int) != q)=false∧decide (M.used<0)=true) ∨
   (((M.W.length:Int) != 2*M.half+M.old)=false∧((M.cards.length:Int) != q)=false∧decide (M.used<0)=false∧decide (1<M.used)=true):=by
   rcases h with h|⟨a1,h⟩|⟨a1,a2,h⟩|⟨a1,a2,a3,h⟩
   ·exact Or.inl (by simpa using h)
   ·exact Or.inr (Or.inl ⟨by simpa using a1,by simpa using h⟩)
   ·exact Or.inr (Or.inr (Or.inl ⟨by simpa using a1,by simpa using a2,by simpa using h⟩))
   ·exact Or.inr (Or.inr (Or.inr ⟨by simpa using a1,by simpa using a2,by simpa using a3,by simpa using h⟩))
  clear h;rcases h' with d1|⟨d1,d2⟩|⟨d1,d2,d3⟩|⟨d1,d2,d3,d4⟩
  all_goals
   go_enter Tryz.func77,Tryz.ntmps77
   go_wp2
   go_quiet (fail)
   go_wp2
   go_quiet (fail)
   go_wp2
   go_quiet (fail)
   go_wp2;go_ret;exact⟨rfl,by repeat (first|exact A0.refl _|(refine A0.drewN_ ?_ _))⟩
theorem E4h (b o:Nat) (M:A7) (S:C8) (w:World) (hM:G8 w b o M S) (h1:1≤M.half) (h2:M.half≤65536) (o1:1≤M.old) (o2:M.old≤65536) (c1:1≤M.card) (c2:M.card≤1024)
  (hw:(M.W.length:Int)=2*M.half+M.old) (cl:(M.cards.length:Int)=(M.old+M.card-1)/M.card) (u1:0≤M.used) (u2:M.used≤1)
  (h:decide (0≤M.top)=false∨(decide (0≤M.top)=true∧decide (M.top≤M.half)=false)∨(decide (0≤M.top)=true∧decide (M.top≤M.half)=true∧decide (0≤M.oldTop)=false) ∨
   (decide (0≤M.top)=true∧decide (M.top≤M.half)=true∧decide (0≤M.oldTop)=true∧decide (M.oldTop≤M.old)=false)) :
  Calls Zi 77 #[.pointer (some ⟨b,o,none⟩)] w fun e w'=>e=.returned (.bool false)∧A0 w w':=by
 have n0:=hM.half;have n1:=hM.old;have n2:=hM.card;have n3:=hM.W;have n4:=hM.used;have n5:=hM.top;have n6:=hM.oldTop;have n10:=hM.cards;have hl:=hM.ok.lenW;have hl2:=hM.ok.lenC;have e1:M.old.tdiv M.card=M.old/M.card:=Zg (by omega);have q0:0≤M.old/M.card:=Ze (by omega) (by omega);have q1:M.old/M.card≤M.old:=Zc _ (by omega);have q2:M.old/M.card*M.card≤M.old:=Zd _ (by omega);have q3:0≤M.old/M.card*M.card:=Zf q0 (by omega);have hcl:=cl;rw[B9v _ _ o1 c1] at hcl;clear cl;generalize M.old/M.card=q at *
 have e2:IntKind.i64.wrap q=q:=Zh _ (by omega);have e3:IntKind.i64.wrap (q*M.card)=q*M.card:=Zh _ (by omega);have e4:IntKind.i64.wrap (2*M.half)=2*M.half:=Zh _ (by omega);have e5:IntKind.i64.wrap (2*M.half+M.old)=2*M.half+M.old:=Zh _ (by omega);have e6:¬M.card=0:=by omega
 have e7:(M.card==0)=false:=by simp;omega
 have d1:((M.W.length:Int) != 2*M.half+M.old)=false:=by simp;exact hw
 have d3:decide (M.used<0)=false:=by simp;omega
 have d4:decide (1<M.used)=false:=by simp;omega
 clear hw;by_cases hlt:q*M.card<M.old
 ·rw[if_pos hlt] at hcl;have d2:((M.cards.length:Int) != q+1)=false:=by simp;exact hcl
  clear hcl hM;rcases h with k1|⟨k1,k2⟩|⟨k1,k2,k3⟩|⟨k1,k2,k3,k4⟩
  all_goals
   go_enter Tryz.func77,Tryz.ntmps77
   go_wp2
   go_quiet (fail)
   go_wp2
   go_quiet (fail)
   go_wp2
   go_quiet (fail)
   go_wp2
   go_quiet (fail)
   go_wp2;go_ret;exact⟨by first|rfl|simp[k4],by repeat (first|exact A0.refl _|(refine A0.drewN_ ?_ _))⟩
 ·rw[if_neg hlt] at hcl;have d2:((M.cards.length:Int) != q)=false:=by simp;exact hcl
  clear hcl hM;rcases h with k1|⟨k1,k2⟩|⟨k1,k2,k3⟩|⟨k1,k2,k3,k4⟩
  all_goals
   go_enter Tryz.func77,Tryz.ntmps77
   go_wp2
   go_quiet (fail)
   go_wp2
   go_quiet (fail)
   go_wp2
   go_quiet (fail)
   go_wp2
   go_quiet (fail)
   go_wp2;go_ret;exact⟨by first|rfl|simp[k4],by repeat (first|exact A0.refl _|(refine A0.drewN_ ?_ _))⟩
theorem E4g (b o:Nat) (M:A7) (S:C8) (w:World) (hM:G8 w b o M S) :
  Calls Zi 77 #[.pointer (some ⟨b,o,none⟩)] w fun e w'=>e=.returned (.bool (P1 M))∧A0 w w':=by
 cases hs:P1 M with
 | true=>exact E4i b o M S (A9r hs) w hM
 | false =>
  have hn:¬G2 M:=fun ⟨h1,h2,o1,o2,c1,c2,hw,u1,u2,t1,t2,p1,p2,cl⟩=>by
   have:P1 M=true:=by
    unfold P1;rw[P0.2 ⟨h1,h2⟩,P0.2 ⟨o1,o2⟩,P0.2 ⟨c1,c2⟩,P0.2 ⟨u1,u2⟩,P0.2 ⟨t1,t2⟩,P0.2 ⟨p1,p2⟩,beq_iff_eq.2 hw,beq_iff_eq.2 cl];rfl
   rw[this] at hs;cases hs
  by_cases h1:M.half<1
  ·exact B1z b o M S w hM (Or.inl h1)
  by_cases h2:65536<M.half
  ·exact B1z b o M S w hM (Or.inr (Or.inl ⟨h1,h2⟩))
  by_cases h3:M.old<1
  ·exact B1z b o M S w hM (Or.inr (Or.inr (Or.inl ⟨h1,h2,h3⟩)))
  by_cases h4:65536<M.old
  ·exact B1z b o M S w hM (Or.inr (Or.inr (Or.inr (Or.inl ⟨h1,h2,h3,h4⟩))))
  by_cases h5:M.card<1
  ·exact B1z b o M S w hM (Or.inr (Or.inr (Or.inr (Or.inr (Or.inl ⟨h1,h2,h3,h4,h5⟩)))))
  by_cases h6:1024<M.card
  ·exact B1z b o M S w hM (Or.inr (Or.inr (Or.inr (Or.inr (Or.inr ⟨h1,h2,h3,h4,h5,h6⟩)))))
  have g1:1≤M.half:=by omega
  have g2:M.half≤65536:=by omega
  have g3:1≤M.old:=by omega
  have g4:M.old≤65536:=by omega
  have g5:1≤M.card:=by omega
  have g6:M.card≤1024:=by omega
  by_cases hw:(M.W.length:Int)=2*M.half+M.old
  ·by_cases hc:(M.cards.length:Int)=(M.old+M.card-1)/M.card
   ·by_cases u1:M.used<0
    ·exact B7c b o M S w hM g1 g2 g3 g4 g5 g6 (Or.inr (Or.inr (Or.inl ⟨hw,hc,u1⟩)))
    by_cases u2:1<M.used
    ·exact B7c b o M S w hM g1 g2 g3 g4 g5 g6 (Or.inr (Or.inr (Or.inr ⟨hw,hc,u1,u2⟩)))
    have v1:0≤M.used:=by omega
    have v2:M.used≤1:=by omega
    refine E4h b o M S w hM g1 g2 g3 g4 g5 g6 hw hc v1 v2 ?_;by_cases t1:0≤M.top
    ·by_cases t2:M.top≤M.half
     ·by_cases p1:0≤M.oldTop
      ·by_cases p2:M.oldTop≤M.old
       ·exact absurd ⟨g1,g2,g3,g4,g5,g6,hw,v1,v2,t1,t2,p1,p2,hc⟩ hn
       ·exact Or.inr (Or.inr (Or.inr ⟨by simpa using t1,by simpa using t2,by simpa using p1,by simpa using p2⟩))
      ·exact Or.inr (Or.inr (Or.inl ⟨by simpa using t1,by simpa using t2,by simpa using p1⟩))
     ·exact Or.inr (Or.inl ⟨by simpa using t1,by simpa using t2⟩)
    ·exact Or.inl (by simpa using t1)
   ·exact B7c b o M S w hM g1 g2 g3 g4 g5 g6 (Or.inr (Or.inl ⟨hw,hc⟩))
  ·exact B7c b o M S w hM g1 g2 g3 g4 g5 g6 (Or.inl hw)
end Go.Proofs.YtelhoppfidibiaaGreatDoor
