/- The walk of mem's Reach: its closure, which notes what a word points to. -/
import Derived.Test.YtelhoppfidibiaaGreatDoorJTa13
import Derived.Test.YtelhoppfidibiaaGreatDoorJTa05
import Derived.Laws.BytesArg
import Derived.IntWalk
import Derived.Test.YtelhoppfidibiaaGreatDoorJTa06
import Derived.Test.YtelhoppfidibiaaGreatDoorJTa03
set_option linter.unusedSimpArgs false
set_option linter.unusedVariables false
set_option maxHeartbeats 4000000
set_option maxRecDepth 100000
namespace Go.Proofs.YtelhoppfidibiaaGreatDoor
open Go.RowKit
def numE (l:List Int):List (Int × Int):=l.zipIdx.map fun p=>(p.1,(p.2:Int))
theorem numE_snoc (l:List Int) (a:Int):numE (l++[a])=numE l++[(a,(l.length:Int))]:=by simp[numE,List.zipIdx_append]
theorem numE_fst (l:List Int):(numE l).map (·.1)=l:=by
 unfold numE
 rw[List.map_map]
 have:((fun p:Int × Int=>p.1)∘fun p:Int × Nat=>(p.1,(p.2:Int)))=Prod.fst:=rfl
 rw[this,List.zipIdx_map_fst]
theorem numE_none {l:List Int} {a:Int} (h:inSt l a=false):mlook (numE l) a=none:=by
 unfold mlook
 cases hf:(numE l).find? (fun p=>a==p.1) with
 | none=>rfl
 | some q =>
  exfalso
  have h1:=List.find?_some hf
  have h2:=List.mem_of_find?_eq_some hf
  have h3:q.1∈l:=by rw[←numE_fst l];exact List.mem_map_of_mem (f:=(·.1)) h2
  have e:a=q.1:=by simpa using h1
  have:inSt l a=true:=by unfold inSt;rw[List.contains_iff_mem,e];exact h3
  rw[h] at this;cases this
theorem numE_some {l:List Int} {a:Int} (h:inSt l a=true):∃ i,mlook (numE l) a=some i:=by
 unfold mlook
 cases hf:(numE l).find? (fun p=>a==p.1) with
 | some q=>exact⟨q.2,rfl⟩
 | none =>
  exfalso
  unfold inSt at h
  rw[List.contains_iff_mem,←numE_fst l] at h
  obtain⟨p,hp,e⟩:=List.mem_map.1 h
  have:=List.find?_eq_none.1 hf p hp
  rw[←e] at this;simp at this
structure NumV (w:World) (B fb nb mb:Nat) (l:List Int) (v:Value):Prop where
 fr:FromV w B fb l v
 nB:B≤nb
 nblk:∃ cur t,w.heap[nb]?=some (.cells cur t (0,0))
 ncell:w.cell? ⟨nb,0,none⟩=some (.map (some mb))
 mB:B≤mb
 map:MapI w mb .i64 (mvE (numE l))
 nf:nb≠fb
 mf:mb≠fb
 mn:mb≠nb
 vn:v.ownBlock≠some nb
 vm:v.ownBlock≠some mb
def OwnN (fb mb:Nat) (v:Value) (k:Nat):Prop:=k=fb∨k=mb∨v.ownBlock=some k
theorem NumV.nlt {w:World} {B fb nb mb:Nat} {l:List Int} {v:Value} (h:NumV w B fb nb mb l v):nb<w.heap.size:=by obtain⟨cur,t,hc⟩:=h.nblk;exact lt_of_block hc
theorem NumV.ext {w w':World} {B fb nb mb:Nat} {l:List Int} {v:Value} (h:NumV w B fb nb mb l v) (hx:Ext w w'):NumV w' B fb nb mb l v :=
 ⟨h.fr.ext hx,h.nB,by rw[Below.block hx _ h.nlt];exact h.nblk,hx.cell_ h.ncell,h.mB,h.map.ext hx,h.nf,h.mf,h.mn,h.vn,h.vm⟩
theorem NumV.own {w:World} {B fb nb mb:Nat} {l:List Int} {v:Value} (h:NumV w B fb nb mb l v) {k:Nat} (hk:OwnN fb mb v k):B≤k∧k<w.heap.size:=by
 rcases hk with rfl|rfl|hk
 ·exact⟨h.fr.hb,h.fr.lt⟩
 ·exact⟨h.mB,h.map.lt⟩
 ·exact h.fr.row.lt hk
def CmPost (w:World) (B fb nb mb:Nat) (v:Value) (l:List Int) (e:Ending) (w':World):Prop :=
 e=.returned (.tuple #[])∧∃ v',NumV w' B fb nb mb l v'∧Keep (OwnN fb mb v) w w'∧∀ k,v'.ownBlock=some k→v.ownBlock=some k∨w.heap.size≤k
def comeL (l:List Int) (u:Int):List Int:=if kindW u≠0∨u=0 then l else if inSt l (placeW u)=true then l else l++[placeW u]
theorem num_look {w:World} {B fb nb mb:Nat} {l:List Int} {v:Value} (h:NumV w B fb nb mb l v) (k:Int) :
  (Instr.lookup 103 (.map (some mb)) (.int .i64 k) true).run Tryz.prog w=.ok (.tuple #[((mlook (numE l) k).map (.int .i64 ·)).getD (.int .i64 0),.bool (mlook (numE l) k).isSome]) w:=by
 rw[run_lookup_mapi undMoved undInt (zeroInt w) h.map k true,mget_mvE]
 cases mlook (numE l) k<;>rfl
theorem come1_stay (u:Int) (h0:0≤u) (h1:u≤18446744073709551615) (B fb nb mb:Nat) (l:List Int) (v:Value) (w:World) (h:NumV w B fb nb mb l v) (hk:kindW u≠0∨u=0) :
  Calls Tryz.prog 112 #[.int .u64 u,.pointer (some ⟨nb,0,none⟩),.pointer (some ⟨fb,0,none⟩)] w (CmPost w B fb nb mb v l):=by
 have HH:=Lib.hid h
 clear h
 by_cases hk0:kindW u=0
 ·have hu:u=0:=by omega
  subst hu
  have hk1:(kindW 0==0)=true:=by decide
  go_enter Tryz.func112,Tryz.ntmps112
  go_wp2_with (go_at_call 103;refine (kind_any _ h0 h1 _).mono ?_;rintro e w' ⟨rfl,rfl⟩)
  first|go_end0|refine bodyPost_ret (results_none rfl _ _ _) rfl ?_
  exact⟨rfl,v,HH.out,Keep.refl _ _,fun k hk=>Or.inl hk⟩
 ·have hk1:(kindW u==0)=false:=by simpa using hk0
  clear hk
  go_enter Tryz.func112,Tryz.ntmps112
  go_wp2_with (go_at_call 103;refine (kind_any _ h0 h1 _).mono ?_;rintro e w' ⟨rfl,rfl⟩)
  first|go_end0|refine bodyPost_ret (results_none rfl _ _ _) rfl ?_
  exact⟨rfl,v,HH.out,Keep.refl _ _,fun k hk=>Or.inl hk⟩
theorem come1_known (u:Int) (h0:0≤u) (h1:u≤18446744073709551615) (B fb nb mb:Nat) (l:List Int) (v:Value) (w:World) (h:NumV w B fb nb mb l v) (hk:kindW u=0) (hu:u≠0) (hi:inSt l (placeW u)=true) :
  Calls Tryz.prog 112 #[.int .u64 u,.pointer (some ⟨nb,0,none⟩),.pointer (some ⟨fb,0,none⟩)] w (CmPost w B fb nb mb v l):=by
 have HH:=Lib.hid h
 have hk1:(kindW u==0)=true:=by simpa using hk
 have hu1:(u==0)=false:=by simpa using hu
 obtain⟨i,hm⟩:=numE_some hi
 have hlk:=num_look h (placeW u)
 rw[hm] at hlk
 simp only[Option.map_some,Option.getD_some,Option.isSome_some] at hlk
 have hc:=h.ncell
 clear h hi hm
 go_enter Tryz.func112,Tryz.ntmps112
 go_wp2_with (first
  | (go_at_call 103;refine (kind_any _ h0 h1 _).mono ?_;rintro e w' ⟨rfl,hw9⟩;have hw9:=hw9.symm;subst hw9)
  | (go_at_call 104;refine (place_any _ h0 h1 _).mono ?_;rintro e w' ⟨rfl,hw9⟩;have hw9:=hw9.symm;subst hw9))
 first|go_end0|refine bodyPost_ret (results_none rfl _ _ _) rfl ?_
 exact⟨rfl,v,HH.out,Keep.refl _ _,fun k hk=>Or.inl hk⟩
theorem come1_new (u:Int) (h0:0≤u) (h1:u≤18446744073709551615) (B fb nb mb:Nat) (l:List Int) (v:Value) (w:World) (h:NumV w B fb nb mb l v) (hk:kindW u=0) (hu:u≠0) (hi:inSt l (placeW u)=false) (hl:l.length≤1000000) :
  Calls Tryz.prog 112 #[.int .u64 u,.pointer (some ⟨nb,0,none⟩),.pointer (some ⟨fb,0,none⟩)] w (CmPost w B fb nb mb v (l++[placeW u])):=by
 have hk1:(kindW u==0)=true:=by simpa using hk
 have hu1:(u==0)=false:=by simpa using hu
 have hm:=numE_none hi
 have hlk:=num_look h (placeW u)
 rw[hm] at hlk
 simp only[Option.map_none,Option.getD_none,Option.isSome_none] at hlk
 obtain⟨i0,hif,hz0,hz1,hz2⟩:=info_parts infoInt
 have htl:(tcells l).length=l.length:=by simp[tcells]
 obtain⟨w7,hrun7,hm7,hb7⟩:=run_update_mapi (P:=Tryz.prog) undMoved undInt h.map (placeW u) (.int .i64 (l.length:Int))
 rw[mput_mvE _ _ _ hm,←numE_snoc] at hm7
 have hK7:Keep (·=mb) w w7:=Keep.of_but hb7
 have h7:FromV w7 B fb l v:=⟨h.fr.hb,by rw[hK7.block _ h.fr.lt (fun e=>h.mf e.symm)];exact h.fr.blk,hK7.cell (p:=⟨fb,0,none⟩) (fun e=>h.mf e.symm) h.fr.cell,h.fr.row.keep hK7 (fun g hg e=>h.vm (by rw[hg,e])),h.fr.no⟩
 obtain⟨v9,w9,hrun9,ht9,hg9,hv9⟩:=run_append_tail (P:=Tryz.prog) (w:=w7.alloc (.cells #[.int .i64 (placeW u)] 3)) 22 22 B 3 i0 (.int .i64 0) 8 undInts hif hz0 hz1 hz2 rfl v (tcells l) (h7.row.ext ((Ext.refl _).alloc_ _)) ⟨w7.heap.size,0,none⟩ 1 (.int .i64 (placeW u)) (by simp[go_sem]) rfl (by rw[htl];unfold maxLen;omega) (by rw[htl];omega) (by have:=h7.hb;have:=h7.lt;simp;omega)
 obtain⟨a9,n9,c9,rfl⟩:=ht9.slice
 have hlen:∃ ta tc,v=.slice ta l.length tc:=by
  rcases h.fr.row with⟨rfl,e⟩|⟨g,off,cap,cur,rfl,_⟩
  ·have:l.length=0:=by rw[←htl,e];rfl
   exact⟨none,0,by rw[this]⟩
  ·exact⟨some ⟨g,off,none⟩,cap,by rw[htl]⟩
 obtain⟨ta,tc,rfl⟩:=hlen
 have hK9:Keep (fun k=>(Value.slice ta l.length tc).ownBlock=some k) w7 w9:=((Keep.refl _ w7).alloc_ _).trans (Keep.of_grown hg9 fun k hk=>Or.inl hk)
 have y0:w9.cell? ⟨fb,0,none⟩=some (.slice ta l.length tc):=hK9.cell (p:=⟨fb,0,none⟩) h7.no h7.cell
 have yf:w9.frozen? ⟨fb,0,none⟩=false:=by rw[hK9.frozen (p:=⟨fb,0,none⟩) h7.no h7.lt];exact h7.frozen 0
 have hsz7:w7.heap.size=w.heap.size:=hb7.size
 have hv9':∀ k,(Value.slice a9 n9 c9).ownBlock=some k→(Value.slice ta l.length tc).ownBlock=some k∨w.heap.size≤k:=fun k hk=>by
  rcases hv9 k hk with q|q
  ·exact Or.inl q
  ·exact Or.inr (by simp at q;omega)
 have hflt:=h.fr.lt
 have hnlt:=h.nlt
 have hmlt:=h.map.lt
 have hno:(Value.slice a9 n9 c9).ownBlock≠some fb:=fun e=>by
  rcases hv9' fb e with q|q
  ·exact h.fr.no q
  ·omega
 have hno2:(Value.slice a9 n9 c9).ownBlock≠some nb:=fun e=>by
  rcases hv9' nb e with q|q
  ·exact h.vn q
  ·omega
 have hno3:(Value.slice a9 n9 c9).ownBlock≠some mb:=fun e=>by
  rcases hv9' mb e with q|q
  ·exact h.vm q
  ·omega
 have hfin:FromV (w9.setCell ⟨fb,0,none⟩ (.slice a9 n9 c9)) B fb (l++[placeW u]) (.slice a9 n9 c9) :=
  ⟨h.fr.hb,blk_set (by rw[hK9.block _ h7.lt h7.no];exact h7.blk),cell_set_same y0,Tail.kept (by simpa [tcells] using ht9) (fun g hg=>heap_setCell_other w9 _ g _ (fun e=>hno (by rw[←show g=fb from e];exact hg))),hno⟩
 have hKA:Keep (OwnN fb mb (.slice ta l.length tc)) w (w9.setCell ⟨fb,0,none⟩ (.slice a9 n9 c9)) :=
  Keep.set_ (L:=OwnN fb mb (.slice ta l.length tc)) ((hK7.sub fun k hk=>Or.inr (Or.inl hk)).trans (hK9.sub fun k hk=>Or.inr (Or.inr hk))) (p:=⟨fb,0,none⟩) (Or.inl (Or.inl rfl)) _
 have hnN:¬OwnN fb mb (.slice ta l.length tc) nb:=fun e=>by
  rcases e with e|e|e
  ·exact h.nf e
  ·exact h.mn e.symm
  ·exact h.vn e
 have hmap9:MapI w9 mb .i64 (mvE (numE (l++[placeW u]))):=hm7.of_block (hK9.block mb (by omega) h.vm)
 have hmap:MapI (w9.setCell ⟨fb,0,none⟩ (.slice a9 n9 c9)) mb .i64 (mvE (numE (l++[placeW u]))):=hmap9.setCell _ _
 have hN:NumV (w9.setCell ⟨fb,0,none⟩ (.slice a9 n9 c9)) B fb nb mb (l++[placeW u]) (.slice a9 n9 c9) :=
  ⟨hfin,h.nB,by rw[hKA.block _ hnlt hnN];exact h.nblk,hKA.cell (p:=⟨nb,0,none⟩) hnN h.ncell,h.mB,hmap,h.nf,h.mf,h.mn,hno2,hno3⟩
 have c0:=h.fr.cell
 have c1:=h.ncell
 have c7:=h7.cell
 have HN:=Lib.hid hN
 have HK:=Lib.hid hKA
 have HV:=Lib.hid hv9'
 have HRUN:=Lib.hid hrun9
 clear h hi hm hif hz0 hz1 hz2 htl hm7 hb7 hK7 h7 hrun9 ht9 hg9 hv9 hK9 hv9' hno hno2 hno3 hfin hKA hnN hmap9 hmap hN hsz7
 go_enter Tryz.func112,Tryz.ntmps112
 go_wp2_with (first
  | (go_at_call 103;refine (kind_any _ h0 h1 _).mono ?_;rintro e w' ⟨rfl,hw9⟩;have hw9:=hw9.symm;subst hw9)
  | (go_at_call 104;refine (place_any _ h0 h1 _).mono ?_;rintro e w' ⟨rfl,hw9⟩;have hw9:=hw9.symm;subst hw9)
  | (at_builtin;refine wpList_append_known rfl _ _ 22 rfl (.slice ta l.length tc) _ rfl rfl HRUN.out ?_))
 first|go_end0|refine bodyPost_ret (results_none rfl _ _ _) rfl ?_
 exact⟨rfl,_,HN.out,HK.out,HV.out⟩
theorem come1_any (u:Int) (h0:0≤u) (h1:u≤18446744073709551615) (B fb nb mb:Nat) (l:List Int) (v:Value) (w:World) (h:NumV w B fb nb mb l v) (hl:l.length≤1000000) :
  Calls Tryz.prog 112 #[.int .u64 u,.pointer (some ⟨nb,0,none⟩),.pointer (some ⟨fb,0,none⟩)] w (CmPost w B fb nb mb v (comeL l u)):=by
 unfold comeL
 by_cases hk:kindW u≠0∨u=0
 ·rw[if_pos hk];exact come1_stay u h0 h1 B fb nb mb l v w h hk
 ·rw[if_neg hk]
  by_cases hi:inSt l (placeW u)=true
  ·rw[if_pos hi];exact come1_known u h0 h1 B fb nb mb l v w h (by omega) (by omega) hi
  ·rw[if_neg hi];exact come1_new u h0 h1 B fb nb mb l v w h (by omega) (by omega) (by simpa using hi) hl
def byteS (n:Int):ByteArray:=strOfNums [n%256]
def belowS:Nat→Int→ByteArray
 | 0,n=>byteS (48-n)
 | f+1,n=>if -10<n then byteS (48-n) else belowS f (n.tdiv 10)++byteS (48-n.tmod 10)
def decS (n:Int):ByteArray:=if n<0 then ⟨#[45]⟩++belowS 20 n else belowS 20 (-n)
theorem byteS_size (n:Int):(byteS n).size=1:=by unfold byteS;rw[strOfNums_size];rfl
theorem belowS_size:∀ (f:Nat) (n:Int),(belowS f n).size≤f+1
 | 0,n=>by simp[belowS,byteS_size]
 | f+1,n=>by
  unfold belowS
  split
  ·rw[byteS_size];omega
  ·rw[ByteArray.size_append,byteS_size]
   have:=belowS_size f (n.tdiv 10)
   omega
theorem decS_size (n:Int):(decS n).size≤22:=by
 unfold decS
 split
 ·rw[ByteArray.size_append]
  have:=belowS_size 20 n
  have e:(⟨#[45]⟩:ByteArray).size=1:=rfl
  omega
 ·have:=belowS_size 20 (-n);omega
theorem tdiv10 (n:Int) (h:n≤0):n.tdiv 10=-((-n)/10):=by
 have h1:(-n).tdiv 10=(-n)/10:=Int.tdiv_eq_ediv_of_nonneg (by omega)
 rw[←h1,Int.neg_tdiv,Int.neg_neg]
def digits16:ByteArray:=⟨#[48,49,50,51,52,53,54,55,56,57,97,98,99,100,101,102]⟩
def hexG:Nat→Int→ByteArray→ByteArray
 | 0,_,out=>out
 | f+1,a,out=>hexG f (a/16) (digits16.extract (a%16).toNat ((a%16).toNat+1)++out)
def hexS (a:Int):ByteArray:=hexG 16 a ⟨#[]⟩
theorem hexG_size:∀ (f:Nat) (a:Int) (o:ByteArray),(hexG f a o).size≤o.size+f
 | 0,a,o=>Nat.le_refl _
 | f+1,a,o=>by
  unfold hexG
  refine Nat.le_trans (hexG_size f _ _) ?_
  rw[ByteArray.size_append,ByteArray.size_extract]
  omega
theorem hexS_size (a:Int):(hexS a).size≤16:=by
 have:=hexG_size 16 a ⟨#[]⟩
 have e:(⟨#[]⟩:ByteArray).size=0:=rfl
 unfold hexS;omega
def constS (k:Nat):ByteArray:=[⟨#[110,111,110,101]⟩,⟨#[102,97,108,115,101]⟩,⟨#[116,114,117,101]⟩].getD k ⟨#[]⟩
def toldS (a:Int) (l:List Ob):ByteArray :=
 if a%4=1 then decS (numW a) else if a%4=2 then constS (a/4).toNat else if a=0 then ⟨#[110,111,119,104,101,114,101]⟩ else
 if objAt l (ptsW a)<0 then ⟨#[64]⟩ else ⟨#[64]⟩++decS (objAt l (ptsW a))
theorem toldS_size (a:Int) (l:List Ob):(toldS a l).size≤30:=by
 unfold toldS
 split
 ·have:=decS_size (numW a);omega
 ·split
  ·unfold constS
   rcases Nat.lt_or_ge (a/4).toNat 3 with h|h
   ·have hh:(a/4).toNat=0∨(a/4).toNat=1∨(a/4).toNat=2:=by omega
    rcases hh with q|q|q<;>rw[q]<;>decide
   ·rw[List.getD_eq_getElem?_getD,List.getElem?_eq_none (by simpa using h)];decide
  ·split
   ·decide
   ·split
    ·decide
    ·rw[ByteArray.size_append]
     have:=decS_size (objAt l (ptsW a))
     have e:(⟨#[64]⟩:ByteArray).size=1:=rfl
     omega
end Go.Proofs.YtelhoppfidibiaaGreatDoor
