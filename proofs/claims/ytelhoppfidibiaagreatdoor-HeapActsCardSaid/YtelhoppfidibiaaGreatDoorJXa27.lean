/- The two collectors of a heap. -/
import Derived.Test.YtelhoppfidibiaaGreatDoorJXa24
import Derived.Test.YtelhoppfidibiaaGreatDoorJXa26
import Derived.Test.YtelhoppfidibiaaGreatDoorJXa16
import Derived.Deep.CutBlock
set_option linter.unusedSimpArgs false
set_option linter.unusedVariables false
set_option maxHeartbeats 8000000
set_option maxRecDepth 100000
namespace Go.Proofs.YtelhoppfidibiaaGreatDoor
open Go.RowKit
open IntWalk renaming i64_in→Za
open List renaming getD_eq_getElem?_getD→Zb,getElem?_eq_getElem→Zc,getElem?_replicate→Zd,length_replicate→Ze,map_congr_left→Zf,map_id→Zg,map_map→Zh,mem_append→Zi,mem_replicate→Zj
open Nat renaming zero_add→Zk
open Go.Proofs.Tryz renaming prog→Zl
theorem E3y (a:Addr) (w:World):Calls Zl 45 #[.nilIface,E0 a] w fun e w'=>e=.returned (.bool false)∧w'=w:=by
 have heq:=run_eql_iface_nil_left (P:=Zl) w 261 (.pointer (some a)) Tryz.underlying26
 go_enter Tryz.func45,Tryz.ntmps45
 go_wp2;go_ret;exact⟨rfl,rfl⟩
section
variable {B hb b:Nat} {M:A7} {S:C8} {E:Nat→Addr} {ten nx:Int}
theorem C8f (w:World) (hH:E7 w B hb b M S ten nx) (hok:M.Ok) (hE:G4 E w) (hc:chk M=0) :
  Calls Zl 46 #[.pointer (some ⟨b,0,none⟩)] w (R8 w B hb b S ten (A1y M) nx (F1 E (A1x M))):=by
 by_cases h:(O4 M:Int)≤M.old
 ·refine (E5q B b M S E w hH.mem hE ⟨hok,hc,h⟩ hH.hbs).mono ?_;rintro e w1 ⟨rfl,S',h1,h2,h3⟩;unfold A1x A1y;rw[if_pos h,if_pos h];obtain⟨g1,g2⟩:=hH.step h1 h2 h3;exact⟨rfl,S',g1,g2⟩
 ·refine (E5p b M S E w (hH.mem.mem hok) hE hc (by omega)).mono ?_;rintro e w1 ⟨rfl,hx⟩;unfold A1x A1y;rw[if_neg h,if_neg h];exact⟨rfl,S,hH.ext hx,D7.of_ext hx⟩
theorem C0n (w:World) (hH:E7 w B hb b M S ten nx) (hok:M.Ok) (hE:G4 E w) (hc:chk M=0) :
  Calls Zl 13 #[.pointer (some ⟨hb,0,none⟩)] w (R8 w B hb b S ten (A1y M) nx (F1 E (A1x M))):=by
 have q0:=hH.ptr;have HC:=Hz (C8f w hH hok hE hc);clear hH hok hE hc
 go_enter Tryz.func13,Tryz.ntmps13
 go_wp2_with (go_at_call 46;refine HC.out.mono ?_;rintro e w1 ⟨rfl,hq⟩;have HQ:=Hz hq;clear hq)
 go_ret;exact⟨rfl,HQ.out⟩
theorem E1s (w:World) (hH:E7 w B hb b M S ten nx) (hok:M.Ok) (hE:G4 E w) (hc:chk M=0) (ht:0≤ten∧ten≤15) (hf:M.old-M.oldTop<M.top) :
  Calls Zl 12 #[.pointer (some ⟨hb,0,none⟩)] w (R8 w B hb b S ten (A1y M) nx (F1 E (A1x M))):=by
 have q0:=hH.ptr;have q1:=hH.tn;have HH:=Hz hH;have HOK:=Hz hok;have HE:=Hz hE;have HC:=Hz hc;clear hH hok hE hc
 go_enter Tryz.func12,Tryz.ntmps12
 go_upto_region 1 with fail
 refine wp_region_held_drew (S:=fun W=>W.cell? ⟨hb,0,none⟩=some (.pointer (some ⟨b,0,none⟩))∧W.cell? ⟨hb,1,none⟩=some (.int .i64 ten)) (by kernel_rfl) ?_ (fun hH=>?_)
 ·exact⟨q0,q1⟩
 refine tJ 0 4 rfl ?_
 try simp only[A5]
 refine tJ 1 5 rfl ?_
 try simp only[A5]
 refine tJ 2 6 rfl ?_
 try simp only[A5]
 refine tJ 3 7 rfl ?_
 try simp only[A5]
 refine tJ 4 8 rfl ?_
 try simp only[A5]
 refine tJ 5 9 rfl ?_
 try simp only[A5]
 refine tJ 6 10 rfl ?_
 try simp only[A5]
 refine tJ 7 11 rfl ?_
 try simp only[A5]
 refine wpAnyH_ready (rs:=[8]) (by kernel_rfl) (by simp) ?_;refine AllReadyH.cons (o:=⟨some 12,_,_,_,_,_⟩) rfl (fun K hK=>?_) AllReadyH.nil;go_simp;refine (D7r b 0 M S E ten _ ((HH.out.mem.mem HOK.out).ext eX) (HE.out.ext eX) HC.out ht.1 ht.2 hf).mono ?_;rintro e w1 ⟨rfl,hq⟩;have HX1:Hid (A0 w w1):=A0.trans_ eX hq;clear hq;refine hK.out _ _ ?_ (fun hH=>?_)
 ·(try dsimp only);exact⟨HX1.out.cell_ q0,HX1.out.cell_ q1⟩
 clear hK K
 try simp only[A5]
 refine tJ 9 3 rfl ?_
 try simp only[A5]
 refine wpAnyH_done (by kernel_rfl) ?_ _;have p0:=HX1.out.cell_ q0;have k5:=(HE.out.ext HX1.out).full;clear hH q0 q1
 go_wp2_with (first
  | (go_at_call 45;refine (C7k (E 5) _).mono ?_;rintro e w9 ⟨rfl,hw9⟩;have hw9:=hw9.symm;subst hw9)
  | (go_at_call 46;refine (C8f _ (HH.out.ext HX1.out) HOK.out (HE.out.ext HX1.out) HC.out).mono ?_;rintro e w2 ⟨rfl,S2,h2,h3⟩;have HQ:Hid (E7 w2 B hb b (A1y M) S2 ten nx∧D7 hb b w S w2 S2):=⟨h2,(D7.of_ext HX1.out).trans_ h3⟩;clear h2 h3))
 go_ret;exact⟨rfl,_,HQ.out⟩
theorem E1t (w:World) (hH:E7 w B hb b M S ten nx) (hok:M.Ok) (hE:G4 E w) (hc:chk M=0) (ht:0≤ten∧ten≤15) (hB:0<B∧3<B∧2<B) (hf:M.top≤M.old-M.oldTop) :
  Calls Zl 12 #[.pointer (some ⟨hb,0,none⟩)] w (R8 w B hb b S ten (A5j M ten) nx (.nilIface)):=by
 have q0:=hH.ptr;have q1:=hH.tn;have HH:=Hz hH;have HOK:=Hz hok;have HE:=Hz hE;have HC:=Hz hc;clear hH hok hE hc
 go_enter Tryz.func12,Tryz.ntmps12
 go_upto_region 1 with fail
 have hgb:=(⟨hB.1,hB.2.1⟩:_∧_);refine wp_region_held_drew (S:=fun W=>W.cell? ⟨hb,0,none⟩=some (.pointer (some ⟨b,0,none⟩))∧W.cell? ⟨hb,1,none⟩=some (.int .i64 ten)) (by kernel_rfl) ?_ (fun hH=>?_)
 ·exact⟨q0,q1⟩
 refine tJ 0 4 rfl ?_
 try simp only[A5]
 refine tJ 1 5 rfl ?_
 try simp only[A5]
 refine tJ 2 6 rfl ?_
 try simp only[A5]
 refine tJ 3 7 rfl ?_
 try simp only[A5]
 refine tJ 4 8 rfl ?_
 try simp only[A5]
 refine tJ 5 9 rfl ?_
 try simp only[A5]
 refine tJ 6 10 rfl ?_
 try simp only[A5]
 refine tJ 7 11 rfl ?_
 try simp only[A5]
 refine wpAnyH_ready (rs:=[8]) (by kernel_rfl) (by simp) ?_;refine AllReadyH.cons (o:=⟨some 12,_,_,_,_,_⟩) rfl (fun K hK=>?_) AllReadyH.nil;go_simp;refine (D7s B b M S E ten _ (OM.ext HH.out.mem eX) (HE.out.ext eX).toG3 ⟨HOK.out,HC.out,ht,hf⟩ (by have:=HH.out.hbs;simp only[World.size_drew];omega) hgb).mono ?_;rintro e w1 ⟨rfl,S',h1,h2,h3⟩;have HQ:Hid (E7 w1 B hb b (A5j M ten) S' ten nx∧D7 hb b w S w1 S'):=by
  obtain⟨g1,g2⟩:=(HH.out.ext (w':=w.drew) eX).step h1 h2 h3;exact⟨g1,(D7.of_ext eX).trans_ g2⟩
 clear h1 h2 h3;refine hK.out _ _ ?_ (fun hH=>?_)
 ·(try dsimp only);exact⟨HQ.out.1.ptr,HQ.out.1.tn⟩
 clear hK K
 try simp only[A5]
 refine tJ 9 3 rfl ?_
 try simp only[A5]
 refine wpAnyH_done (by kernel_rfl) ?_ _;have k5:w1.cell? ⟨2,0,none⟩=some (E0 (E 5)):=HQ.out.2.keep.cell (fun e=>by
  have:=(HH.out.own e).1;have:=hB.2.2;simp only at *
  omega) HE.out.full
 clear hH q0 q1
 go_wp2_with (go_at_call 45;refine (E3y (E 5) _).mono ?_;rintro e w9 ⟨rfl,hw9⟩;have hw9:=hw9.symm;subst hw9)
 go_ret;exact⟨rfl,_,HQ.out⟩
theorem C0o (w:World) (hH:E7 w B hb b M S ten nx) (hok:M.Ok) (hE:G4 E w) (hc:chk M=0) (ht:0≤ten∧ten≤15) (hB:0<B∧3<B∧2<B) :
  Calls Zl 12 #[.pointer (some ⟨hb,0,none⟩)] w (R8 w B hb b S ten (A4x M ten) nx (F1 E (A4f M))):=by
 unfold A4x A4f;by_cases h:M.top≤M.old-M.oldTop
 ·rw[if_pos h,if_pos h];exact E1t w hH hok hE hc ht hB h
 ·rw[if_neg h,if_neg h];exact E1s w hH hok hE hc ht (by omega)
end
def o1B (M:A7) (n:Int):Bool:=decide (M.half<M.top+n)&&decide (n≤M.half)
def o1C (M:A7) (n:Int):Int:=if o1B M n then A4f M else 0
def T6 (M:A7) (ten n:Int):A7:=if o1B M n then A4x M ten else M
def o2B (M:A7) (n:Int):Bool:=decide (M.half<M.top+n)&&(decide (n≤M.half)||decide (M.old-M.oldTop<n))
def o2C (M:A7) (n:Int):Int:=if o2B M n then A1x M else 0
def o2M (M:A7) (n:Int):A7:=if o2B M n then A1y M else M
def o3C (M:A7) (n:Int):Int:=if M.top+n≤M.half then 0 else if n≤M.old-M.oldTop then 0 else 6
def atM (M:A7) (n:Int):Nat:=if M.top+n≤M.half then M.base+M.top.toNat else (2*M.half).toNat+M.oldTop.toNat
def o3M (M:A7) (kind:Int) (fs:List Int):A7:=if M.top+(1+fs.length)≤M.half then A6x M kind fs else A6y M kind fs
def L0 (kind:Int):Int:=if D2 kind then 0 else 2
def J0 (M:A7) (ten:Int) (sz:Nat):Int :=
 if o1C M (1+sz)=0 then (if o2C (T6 M ten (1+sz)) (1+sz)=0 then o3C (o2M (T6 M ten (1+sz)) (1+sz)) (1+sz) else o2C (T6 M ten (1+sz)) (1+sz)) else o1C M (1+sz)
def Y8 (M:A7) (ten:Int) (sz:Nat):A7:=o2M (T6 M ten (1+sz)) (1+sz)
def J1 (M:A7) (ten kind:Int) (sz:Nat):A7:=if J0 M ten sz=0 then o3M (Y8 M ten sz) kind (List.replicate sz (L0 kind)) else if o1C M (1+sz)=0 then Y8 M ten sz else T6 M ten (1+sz)
def U1 (M:A7) (ten:Int) (sz:Nat):Int:=if J0 M ten sz=0 then (atM (Y8 M ten sz) (1+sz):Int) else 0
structure GB (B:Nat):Prop where
 bound:0<B
 shape:3<B
 place:1<B
 full:2<B
section
variable {B hb b:Nat} {M:A7} {S:C8} {E:Nat→Addr} {ten nx:Int}
theorem G4.step {w w':World} {S':C8} (h:G4 E w) (hH:E7 w B hb b M S ten nx) (hS:D7 hb b w S w' S') (hB:GB B):G4 E w':=by
 have key:∀ g v,g<B→w.cell? ⟨g,0,none⟩=some v→w'.cell? ⟨g,0,none⟩=some v:=fun g v hg hc=>hS.keep.cell (p:=⟨g,0,none⟩) (fun e=>by have h:=(hH.own e).1;simp only at h;omega) hc
 exact⟨⟨key _ _ hB.bound h.bound,key _ _ hB.shape h.shape,key _ _ hB.place h.place⟩,key _ _ hB.full h.full⟩
theorem A5u.ownA {k:Nat} (h:A5u b S k):G1 b S k:=by
 rcases h with h|h|h
 ·exact Or.inl h
 ·exact Or.inr (Or.inl h)
 ·exact Or.inr (Or.inr (Or.inr (Or.inr (Or.inr h))))
theorem D8b (w:World):Calls Zl 39 #[.int .i64 0] w fun e w'=>e=.returned (.int .u64 2)∧w'=w:=B3n 0 w
def A5m (M:A7) (kind n:Int) (sz:Nat):A7:=if M.top+n≤M.half then B3w M kind sz else {M with W:=M.W.set ((2*M.half).toNat+M.oldTop.toNat) (J7 kind 0 0 sz),oldTop:=M.oldTop+n}
def A1s (M:A7) (kind:Int) (sz k:Nat):A7:={A5m M kind (1+sz) sz with W:=splice (A5m M kind (1+sz) sz).W (atM M (1+sz)+1) (List.replicate k (L0 kind))}
theorem C6e (M:A7) (kind:Int) (sz:Nat):(A5m M kind (1+sz) sz).W=M.W.set (atM M (1+sz)) (J7 kind 0 0 sz):=by
 unfold A5m atM;split<;>rfl
theorem E0d (M:A7) (kind:Int) (sz:Nat):A1s M kind sz sz=o3M M kind (List.replicate sz (L0 kind)):=by
 unfold A1s o3M A6x A6y A2k;rw[C6e];unfold A5m atM;simp only[Ze]
 split
 ·unfold B3w;simp only
 ·simp only[Int.add_assoc]
theorem E0f (M:A7) (kind:Int) (sz:Nat):A1s M kind sz 0=A5m M kind (1+sz) sz:=by
 unfold A1s splice;simp
theorem E0h (L:List Int) (off k:Nat) (f:Int) (ho:off+(k+1)≤L.length):splice L off (List.replicate (k+1) f)=(splice L off (List.replicate k f)).set (off+k) f:=by
 unfold splice;apply List.ext_getElem?;intro i;have e3:(L.take off).length=off:=by simp;omega
 rw[List.getElem?_set];simp only[List.getElem?_append,Ze,e3,List.length_append,List.length_drop];by_cases h1:i<off
 ·rw[if_pos h1,if_pos h1,if_neg (by omega)]
 ·rw[if_neg h1];by_cases h2:i=off+k
  ·subst h2;rw[if_pos (by omega),if_pos rfl,if_pos (by omega),Zd,if_pos (by omega)]
  ·rw[if_neg (show ¬off+k=i by omega),if_neg h1];by_cases h3:i-off<k
   ·rw[if_pos (by omega),if_pos h3,Zd,Zd,if_pos (by omega),if_pos h3]
   ·rw[if_neg (by omega),if_neg h3,List.getElem?_drop,List.getElem?_drop];congr 1;omega
theorem E0e (M:A7) (kind:Int) (sz k:Nat) (h:atM M (1+sz)+1+(k+1)≤(A5m M kind (1+sz) sz).W.length):{A1s M kind sz k with W:=(A1s M kind sz k).W.set (atM M (1+sz)+1+k) (L0 kind)}=A1s M kind sz (k+1):=by
 unfold A1s;simp only;rw[←E0h _ _ _ _ h]
theorem F5z (L:List Int) (a k:Nat) (f:Int) (h:a+k≤L.length):(splice L a (List.replicate k f)).length=L.length:=length_splice _ _ _ (by simpa using h)
theorem E8n {M:A7} {ten:Int} {kind:Int} {sz:Nat} (h:o1C M (1+sz)≠0):J0 M ten sz=o1C M (1+sz)∧J1 M ten kind sz=T6 M ten (1+sz)∧U1 M ten sz=0:=by
 have e:J0 M ten sz=o1C M (1+sz):=by unfold J0;rw[if_neg h]
 exact⟨e,by unfold J1;rw[e,if_neg h,if_neg h],by unfold U1;rw[e,if_neg h]⟩
theorem E8o {M:A7} {ten:Int} {kind:Int} {sz:Nat} (h1:o1C M (1+sz)=0) (h:o2C (T6 M ten (1+sz)) (1+sz)≠0):J0 M ten sz=o2C (T6 M ten (1+sz)) (1+sz)∧J1 M ten kind sz=Y8 M ten sz∧U1 M ten sz=0:=by
 have e:J0 M ten sz=o2C (T6 M ten (1+sz)) (1+sz):=by unfold J0;rw[if_pos h1,if_neg h]
 exact⟨e,by unfold J1;rw[e,if_neg h,if_pos h1],by unfold U1;rw[e,if_neg h]⟩
theorem C9m {M:A7} {ten:Int} {sz:Nat} (h1:o1C M (1+sz)=0) (h2:o2C (T6 M ten (1+sz)) (1+sz)=0):J0 M ten sz=o3C (Y8 M ten sz) (1+sz):=by
 unfold J0 Y8;rw[if_pos h1,if_pos h2]
theorem E8p {M:A7} {ten:Int} {kind:Int} {sz:Nat} (h1:o1C M (1+sz)=0) (h2:o2C (T6 M ten (1+sz)) (1+sz)=0) (h:o3C (Y8 M ten sz) (1+sz)=6):J0 M ten sz=6∧J1 M ten kind sz=Y8 M ten sz∧U1 M ten sz=0:=by
 have e:J0 M ten sz=6:=by rw[C9m h1 h2,h]
 exact⟨e,by unfold J1;rw[e,if_neg (by decide),if_pos h1],by unfold U1;rw[e,if_neg (by decide)]⟩
theorem B7s {M:A7} {ten:Int} {kind:Int} {sz:Nat} (h1:o1C M (1+sz)=0) (h2:o2C (T6 M ten (1+sz)) (1+sz)=0) (h:o3C (Y8 M ten sz) (1+sz)=0):J0 M ten sz=0∧J1 M ten kind sz=o3M (Y8 M ten sz) kind (List.replicate sz (L0 kind))∧U1 M ten sz=(atM (Y8 M ten sz) (1+sz):Int):=by
 have e:J0 M ten sz=0:=by rw[C9m h1 h2,h]
 exact⟨e,by unfold J1;rw[if_pos e],by unfold U1;rw[if_pos e]⟩
theorem B0t {M:A7} {ten nx n:Int} (ht:0≤ten∧ten≤15) (h:D6 M nx):D6 (T6 M ten n) nx∧Q8 M (T6 M ten n):=by
 unfold T6;split
 ·exact C8o ht h
 ·exact⟨h,Q8.refl M⟩
theorem C9i {M:A7} {nx n:Int} (h:D6 M nx):D6 (o2M M n) nx∧Q8 M (o2M M n):=by
 unfold o2M;split
 ·exact C1n h
 ·exact⟨h,Q8.refl M⟩
theorem C8l {M:A7} {ten nx:Int} {sz:Nat} (ht:0≤ten∧ten≤15) (h:D6 M nx):D6 (Y8 M ten sz) nx∧Q8 M (Y8 M ten sz):=by
 obtain⟨a,b⟩:=B0t (n:=1+sz) ht h;obtain⟨c,d⟩:=C9i (n:=1+sz) a;exact⟨c,b.trans d⟩
theorem D5k {M:A7} {kind:Int} {sz:Nat} (hs:G2 M) (h:o3C M (1+sz)=0):atM M (1+sz)+1+sz≤M.W.length∧(A5m M kind (1+sz) sz).W.length=M.W.length:=by
 obtain⟨h1,h2,h3,h4,h5,h6,h7,h8,h9,h10,h11,h12,h13,h14⟩:=id hs;have hb:=hs.base;constructor
 ·unfold atM
  split
  ·omega
  ·unfold o3C at h;rename_i q;rw[if_neg q] at h
   split at h
   ·omega
   ·omega
 ·rw[C6e];simp
theorem E7.setW {w:World} (h:E7 w B hb b M S ten nx) {g:Nat} (hg:S.W.1=some ⟨g,0,none⟩) (j:Nat) (hj:j<M.W.length) (x:Int) :
  E7 (w.setCell ⟨g,j,none⟩ (.int .u64 x)) B hb b {M with W:=M.W.set j x} S ten nx∧D7 hb b w S (w.setCell ⟨g,j,none⟩ (.int .u64 x)) S :=
 h.step (B7.setW h.mem hg j hj x) (A8.set_ (L:=G1 b S) (A8.refl _ w) (p:=⟨g,j,none⟩) (Or.inl (Or.inr (Or.inl hg))) _) (fun _ q=>Or.inl q)
theorem E7.setOldTop {w:World} (h:E7 w B hb b M S ten nx) (x:Int) :
  E7 (w.setCell ⟨b,6,none⟩ (.int .i64 x)) B hb b {M with oldTop:=x} S ten nx∧D7 hb b w S (w.setCell ⟨b,6,none⟩ (.int .i64 x)) S :=
 h.step (B7.setOldTop h.mem x) (A8.set_ (L:=G1 b S) (A8.refl _ w) (p:=⟨b,6,none⟩) (Or.inl (Or.inl rfl)) _) (fun _ q=>Or.inl q)
theorem E8q {w wr:World} {n kind:Int} {sz A:Nat} {M1 M2:A7} {S3:C8} (hn:n=1+(sz:Int)) (hM1:M1=T6 M ten n) (hM2:M2=o2M M1 n) (h1:o1C M n=0) (h2:o2C M1 n=0) (h3:o3C M2 n=0) (hA:A=atM M2 n)
  (hO:E7 wr B hb b (A1s M2 kind sz sz) S3 ten nx) (hS:D7 hb b w S wr S3):R8 w B hb b S ten (J1 M ten kind sz) nx (.tuple #[.int .i64 (U1 M ten sz),F1 E (J0 M ten sz)]) (.returned (.tuple #[.int .i64 (A:Int),.nilIface])) wr:=by
 subst hn hM1 hM2 hA;obtain⟨r1,r2,r3⟩:=B7s (ten:=ten) (kind:=kind) (sz:=sz) h1 h2 h3;rw[r1,r2,r3];rw[E0d] at hO;exact⟨rfl,S3,hO,hS⟩
def B2x (w:World) (B hb b:Nat) (M:A7) (S:C8) (E:Nat→Addr) (ten nx kind:Int) (sz:Nat) (e:Ending) (w':World):Prop :=
 R8 w B hb b S ten (J1 M ten kind sz) nx (.tuple #[.int .i64 (U1 M ten sz),F1 E (J0 M ten sz)]) e w'
theorem C2t {M:A7} (h:G2 M) {n:Int} (hn:1≤n∧n≤4097):IntKind.i64.wrap (M.top+n)=M.top+n∧IntKind.i64.wrap (M.old-M.oldTop)=M.old-M.oldTop∧IntKind.i64.wrap (2*M.half)=2*M.half∧IntKind.i64.wrap (2*M.half+M.oldTop)=2*M.half+M.oldTop∧IntKind.i64.wrap (M.oldTop+n)=M.oldTop+n:=by
 obtain⟨h1,h2,h3,h4,h5,h6,h7,h8,h9,h10,h11,h12,h13,h14⟩:=h;refine⟨Za _ (by omega),Za _ (by omega),Za _ (by omega),Za _ (by omega),Za _ (by omega)⟩
theorem B7t (kind:Int) (sz:Nat) (w:World) (hH:E7 w B hb b M S ten nx) (hI:D6 M nx) (hE:G4 E w) (ht:0≤ten∧ten≤15) (hB:GB B) (hk:0≤kind∧kind≤255) (hz:sz≤4096) :
  Calls Zl 41 #[.pointer (some ⟨hb,0,none⟩),.int .i64 kind,.int .i64 (sz:Int)] w (B2x w B hb b M S E ten nx kind sz):=by
 obtain⟨n,hn⟩:∃ n:Int,n=1+(sz:Int):=⟨_,rfl⟩;have e0:IntKind.i64.wrap (1+(sz:Int))=n:=by rw[Za _ (by omega),hn]
 have hn1:1≤n∧n≤4097:=by omega
 have HN:=Hz hn;have HH:=Hz hH;have HI:=Hz hI;have HE:=Hz hE;have HB:=Hz hB;have hs:=(K5 (L8 hI.chk).1).1;obtain⟨e1,e2,e3,e4,e5⟩:=C2t hs hn1;have q0:=HH.out.ptr;have hMm:=HH.out.mem.mem HI.out.ok;have c0:=hMm.half;have c1:=hMm.old;have c5:=hMm.top;have c6:=hMm.oldTop;simp only[Zk] at c0 c1 c5 c6;clear hH hI hE hs hMm hn hB e3 e4 e5
 go_enter Tryz.func41,Tryz.ntmps41
 go_upto_region 2 with fail
 go_cut [43] from 16 to 43 (fun c wx=>c=.bool (o1B M n)∧Hid (A0 w wx))
 case first =>
  by_cases g1:M.half<M.top+n
  ·have g1b:decide (M.half<M.top+n)=true:=decide_eq_true g1;by_cases g2:n≤M.half
   ·have g2b:decide (n≤M.half)=true:=decide_eq_true g2;go_region
    go_wp2_with fail
    go_meet
    case rel=>exact⟨by unfold o1B;rw[g1b,g2b];rfl,(A0.refl _).drew_⟩
   ·have g2b:decide (n≤M.half)=false:=decide_eq_false g2;go_region
    go_wp2_with fail
    go_meet
    case rel=>exact⟨by unfold o1B;rw[g1b,g2b];rfl,(A0.refl _).drew_⟩
  ·have g1b:decide (M.half<M.top+n)=false:=decide_eq_false g1;go_region
   go_wp2_with fail
   go_meet
   case rel=>exact⟨by unfold o1B;rw[g1b];rfl,(A0.refl _).drew_⟩
 case rest =>
  obtain⟨rfl,HX1⟩:=hcut;clear q0 c0 c1 c5 c6 e1 e2
  go_upto_if 43 with fail
  go_cut [43] from 44 to 47 (fun c wx=>Hid (o1C M n=0)∧∃ S1,Hid (E7 wx B hb b (T6 M ten n) S1 ten nx)∧Hid (D7 hb b w S wx S1))
  case first =>
   cases h1:o1B M n with
   | false =>
    go_wp2_with fail
    go_meet
    case rel=>exact⟨by unfold Hid o1C;rw[h1];rfl,S,by unfold Hid T6;rw[h1];exact HH.out.ext HX1.out,D7.of_ext HX1.out⟩
   | true =>
    have hm1:T6 M ten n=A4x M ten:=by unfold T6;rw[h1];rfl
    have hc1:o1C M n=A4f M:=by unfold o1C;rw[h1];rfl
    have HM1:=Hz hm1;have HC1:=Hz hc1;clear hm1 hc1;by_cases h2:A4f M=0
    ·have hv:Hid (F1 E (A4f M)=.nilIface):=by rw[Hid,h2];rfl
     have H2:=Hz h2;clear h2
     go_wp2_with (go_at_call 12;refine (C0o _ (HH.out.ext HX1.out) HI.out.ok (HE.out.ext HX1.out) HI.out.chk ht ⟨HB.out.bound,HB.out.shape,HB.out.full⟩).mono ?_;rintro e w3 ⟨he,S1,h3,h4⟩;rw[hv.out] at he;subst he;have HH1:=Hz h3;have HS1:Hid (D7 hb b w S w3 S1):=(D7.of_ext HX1.out).trans_ h4;clear h3 h4)
     go_meet
     case rel=>exact⟨by rw[Hid,HC1.out];exact H2.out,S1,by rw[Hid,HM1.out];exact HH1.out,HS1.out⟩
    ·obtain⟨ea,hv⟩:∃ ea,Hid (F1 E (A4f M)=E0 ea):=⟨_,B0k E _ h2⟩;have H2:=Hz h2;clear h2
     go_wp2_with (go_at_call 12;refine (C0o _ (HH.out.ext HX1.out) HI.out.ok (HE.out.ext HX1.out) HI.out.chk ht ⟨HB.out.bound,HB.out.shape,HB.out.full⟩).mono ?_;rintro e w3 ⟨he,S1,h3,h4⟩;rw[hv.out] at he;subst he;have HH1:=Hz h3;have HS1:Hid (D7 hb b w S w3 S1):=(D7.of_ext HX1.out).trans_ h4;clear h3 h4)
     go_ret2
     have hn:=HN.out;subst hn;obtain⟨r1,r2,r3⟩:=E8n (ten:=ten) (kind:=kind) (sz:=sz) (by rw[HC1.out];exact H2.out);unfold B2x;rw[r1,r2,r3,HC1.out,HM1.out,hv.out];exact⟨rfl,S1,HH1.out,HS1.out⟩
  case rest =>
   obtain⟨HC1,S1,HH1,HS1⟩:=hcut;obtain⟨wA,rfl⟩:∃ x,x=wc:=⟨wc,rfl⟩;have HI1:=Hz (B0t (n:=n) ht HI.out).1;have HE1:=Hz (HE.out.step HH.out HS1.out HB.out);obtain⟨M1,hM1⟩:∃ M1,M1=T6 M ten n:=⟨_,rfl⟩;rw[←hM1] at HH1 HI1;have HM1:=Hz hM1;clear hM1 HX1;have q0:=HH1.out.ptr;have hMm:=HH1.out.mem.mem HI1.out.ok;have c0:=hMm.half;have c1:=hMm.old;have c5:=hMm.top;have c6:=hMm.oldTop;simp only[Zk] at c0 c1 c5 c6;have hs:=(K5 (L8 HI1.out.chk).1).1;obtain⟨e1,e2,e3,e4,e5⟩:=C2t hs hn1;clear e3 e4 e5 hMm hs
   go_upto_region 6 with fail
   go_cut [95] from 49 to 95 (fun c wx=>c=.bool (o2B M1 n)∧Hid (A0 wA wx))
   case first =>
    by_cases g1:M1.half<M1.top+n
    ·have g1b:decide (M1.half<M1.top+n)=true:=decide_eq_true g1;by_cases g2:n≤M1.half
     ·have g2b:decide (n≤M1.half)=true:=decide_eq_true g2;go_region
      go_wp2_with fail
      go_meet
      case rel=>exact⟨by unfold o2B;rw[g1b,g2b];rfl,(A0.refl _).drew_⟩
     ·have g2b:decide (n≤M1.half)=false:=decide_eq_false g2;by_cases g3:M1.old-M1.oldTop<n
      ·have g3b:decide (M1.old-M1.oldTop<n)=true:=decide_eq_true g3;go_region
       go_wp2_with fail
       go_meet
       case rel=>exact⟨by unfold o2B;rw[g1b,g2b,g3b];rfl,(A0.refl _).drew_⟩
      ·have g3b:decide (M1.old-M1.oldTop<n)=false:=decide_eq_false g3;go_region
       go_wp2_with fail
       go_meet
       case rel=>exact⟨by unfold o2B;rw[g1b,g2b,g3b];rfl,(A0.refl _).drew_⟩
    ·have g1b:decide (M1.half<M1.top+n)=false:=decide_eq_false g1;go_region
     go_wp2_with fail
     go_meet
     case rel=>exact⟨by unfold o2B;rw[g1b];rfl,(A0.refl _).drew_⟩
   case rest =>
    obtain⟨rfl,HX2⟩:=hcut;clear q0 c0 c1 c5 c6 e1 e2
    go_upto_if 95 with fail
    go_cut [95] from 96 to 99 (fun c wx=>Hid (o2C M1 n=0)∧∃ S2,Hid (E7 wx B hb b (o2M M1 n) S2 ten nx)∧Hid (D7 hb b w S wx S2))
    case first =>
     cases h1:o2B M1 n with
     | false =>
      go_wp2_with fail
      go_meet
      case rel=>exact⟨by unfold Hid o2C;rw[h1];rfl,S1,by unfold Hid o2M;rw[h1];exact HH1.out.ext HX2.out,HS1.out.trans_ (D7.of_ext HX2.out)⟩
     | true =>
      have hm1:o2M M1 n=A1y M1:=by unfold o2M;rw[h1];rfl
      have hc1:o2C M1 n=A1x M1:=by unfold o2C;rw[h1];rfl
      have HM2:=Hz hm1;have HC2:=Hz hc1;clear hm1 hc1;by_cases h2:A1x M1=0
      ·have hv:Hid (F1 E (A1x M1)=.nilIface):=by rw[Hid,h2];rfl
       have H2:=Hz h2;clear h2
       go_wp2_with (go_at_call 13;refine (C0n _ (HH1.out.ext HX2.out) HI1.out.ok (HE1.out.ext HX2.out) HI1.out.chk).mono ?_;rintro e w3 ⟨he,S2,h3,h4⟩;rw[hv.out] at he;subst he;have HH2:=Hz h3;have HS2:Hid (D7 hb b w S w3 S2):=(HS1.out.trans_ (D7.of_ext HX2.out)).trans_ h4;clear h3 h4)
       go_meet
       case rel=>exact⟨by rw[Hid,HC2.out];exact H2.out,S2,by rw[Hid,HM2.out];exact HH2.out,HS2.out⟩
      ·obtain⟨ea,hv⟩:∃ ea,Hid (F1 E (A1x M1)=E0 ea):=⟨_,B0k E _ h2⟩;have H2:=Hz h2;clear h2
       go_wp2_with (go_at_call 13;refine (C0n _ (HH1.out.ext HX2.out) HI1.out.ok (HE1.out.ext HX2.out) HI1.out.chk).mono ?_;rintro e w3 ⟨he,S2,h3,h4⟩;rw[hv.out] at he;subst he;have HH2:=Hz h3;have HS2:Hid (D7 hb b w S w3 S2):=(HS1.out.trans_ (D7.of_ext HX2.out)).trans_ h4;clear h3 h4)
       go_ret2
       have hn:=HN.out;subst hn;have hM1:=HM1.out;subst hM1;obtain⟨r1,r2,r3⟩:=E8o (ten:=ten) (kind:=kind) (sz:=sz) HC1.out (by rw[HC2.out];exact H2.out);unfold B2x;rw[r1,r2,r3,HC2.out,hv.out];unfold Y8;rw[HM2.out];exact⟨rfl,S2,HH2.out,HS2.out⟩
    case rest =>
     obtain⟨HC2,S2,HH2,HS2⟩:=hcut;obtain⟨wB,rfl⟩:∃ x,x=wc:=⟨wc,rfl⟩;have HI2:=Hz (C9i (n:=n) HI1.out).1;have HE2:=Hz (HE.out.step HH.out HS2.out HB.out);obtain⟨M2,hM2⟩:∃ M2,M2=o2M M1 n:=⟨_,rfl⟩;rw[←hM2] at HH2 HI2;have HM2:=Hz hM2;clear hM2 HX2;have q0:=HH2.out.ptr;have hMm:=HH2.out.mem.mem HI2.out.ok;have c0:=hMm.half;have c1:=hMm.old;have c5:=hMm.top;have c6:=hMm.oldTop;simp only[Zk] at c0 c1 c5 c6;have hs:=(K5 (L8 HI2.out.chk).1).1;obtain⟨e1,e2,e3,e4,e5⟩:=C2t hs hn1;obtain⟨s1,s2,s3,s4,s5,s6,s7,s8,s9,s10,s11,s12,s13,s14⟩:=id hs;have HSH:=Hz hs;have hsb:=hs.base;obtain⟨at_,hat⟩:∃ a:Nat,a=(2*M2.half).toNat+M2.oldTop.toNat:=⟨_,rfl⟩;have hat2:2*M2.half+M2.oldTop=(at_:Int):=by omega
     replace e4:IntKind.i64.wrap (2*M2.half+M2.oldTop)=(at_:Int):=by rw[e4];exact hat2
     have HAT:=Hz hat
     clear hMm hs hat2 hat
     go_upto_region 10 with fail
     go_region
     go_upto_block 0 with fail
     refine P4 (fun wC hwC=>?_);have hHXC:Hid (A0 wB wC):=by rw[hwC];exact (A0.refl _).drew_
     have q0':=hHXC.out.cell_ q0;have c0':=hHXC.out.cell_ c0;have c1':=hHXC.out.cell_ c1;have c5':=hHXC.out.cell_ c5;have c6':=hHXC.out.cell_ c6;clear hwC
     go_cut [11] from 118 to 184 (fun a wx=>Hid (o3C M2 n=0)∧a=.int .i64 (atM M2 n:Int)∧∃ S3,Hid (E7 wx B hb b (A5m M2 kind n sz) S3 ten nx)∧Hid (D7 hb b w S wx S3))
     case first =>
      by_cases g1:M2.top+n≤M2.half
      ·have hA:Hid (atM M2 n=M2.base+M2.top.toNat):=if_pos g1;have hHd:Hid (A5m M2 kind n sz=B3w M2 kind sz):=if_pos g1;have hC3:Hid (o3C M2 n=0):=if_pos g1
       go_upto_if 118 with (go_region)
       refine P4 (fun wD hwD=>?_);have hHXD:Hid (A0 wB wD):=by rw[hwD];exact hHXC.out.drew_
       have q0'':=hHXD.out.cell_ q0;clear hwD
       go_wp2_with (go_at_call 87;refine (E0t B b M2 S2 _ (HH2.out.ext hHXD.out).mem HI2.out.ok HSH.out kind (sz:Int) hk ⟨by omega,by omega⟩ (by have:=HN.out;omega)).mono ?_;rintro e w5 ⟨rfl,hq1,hq2⟩;have HO5:=Hz hq1;have HK5:=Hz hq2;clear hq1 hq2)
       go_meet
       case rel =>
        obtain⟨z1,z2⟩:=(HH2.out.ext hHXD.out).step HO5.out (HK5.out.sub fun k=>A5u.ownA) (fun _ q=>Or.inl q);exact⟨hC3.out,by rw[hA.out];exact congrArg _ (by omega),S2,by rw[Hid,hHd.out];exact z1,(HS2.out.trans_ (D7.of_ext hHXD.out)).trans_ z2⟩
      ·have hA:Hid (atM M2 n=at_):=by unfold Hid atM;rw[if_neg g1,HAT.out]
       have hHd:Hid (A5m M2 kind n sz={M2 with W:=M2.W.set at_ (J7 kind 0 0 sz),oldTop:=M2.oldTop+n}):=by unfold Hid A5m;rw[if_neg g1,←HAT.out]
       by_cases g2:n≤M2.old-M2.oldTop
       ·have hC3:Hid (o3C M2 n=0):=by unfold Hid o3C;rw[if_neg g1,if_pos g2]
        have hn:=HN.out;have hlen:at_<M2.W.length:=by have:=HAT.out;omega
        obtain⟨g,hg,hgB,hgl,hgf,hgc,-⟩:=Q3 (B7.fW HH2.out.mem) (by omega);have hMm:=HH2.out.mem.mem HI2.out.ok;have c3:=hMm.W;simp only[Zk] at c3;rw[hg] at c3;have hgb:g≠b:=fun e=>(HH2.out.mem.fld ⟨3,78,1,S2.W.1,M2.W.length,S2.W.2,C5 M2.W⟩ (by simp[F3])).2.2 (by simp[I6.val,hg,Value.ownBlock,e])
        have hghb:g≠hb:=fun e=>HH2.out.ne (Or.inr (Or.inl (by rw[hg,e])))
        have hcell:wB.cell? ⟨g,at_,none⟩=some (.int .u64 (M2.W.getD at_ 0)):=by
         have:=hMm.rW;rw[hg] at this;simpa using this.at_ (K2 M2.W at_ hlen)
        have hfg:=hgf at_;have HG:=Hz hg;clear hg hMm hgf hn s7
        go_upto_if 118 with (go_region)
        go_upto_region 14 with fail
        go_region
        go_upto_if 143 with fail
        go_upto_region 15 with fail
        refine P4 (fun wD hwD=>?_);have hHXD:Hid (A0 wB wD):=by rw[hwD];repeat (first|exact hHXC.out|(refine A0.drew_ ?_))
        clear hwD;refine wp_region_held_drew (S:=fun W=>W.cell? ⟨hb,0,none⟩=some (.pointer (some ⟨b,0,none⟩))∧W.cell? ⟨b,3,none⟩=some (.slice (some ⟨g,0,none⟩) M2.W.length S2.W.2)) (by kernel_rfl) ?_ (fun hH=>?_)
        ·exact⟨hHXD.out.cell_ q0,hHXD.out.cell_ c3⟩
        refine tJ 0 161 rfl ?_
        try simp only[A5]
        refine tJ 1 162 rfl ?_
        try simp only[A5]
        refine tJ 2 163 rfl ?_
        try simp only[A5]
        refine tJ 3 164 rfl ?_
        try simp only[A5]
        refine tJ 4 165 rfl ?_
        try simp only[A5]
        refine tJ 5 166 rfl ?_
        try simp only[A5]
        refine tJ 6 167 rfl ?_
        try simp only[A5]
        refine tJ 7 168 rfl ?_
        try simp only[A5]
        refine tJ 8 169 rfl ?_
        try simp only[A5]
        refine tJ 9 170 rfl ?_
        try simp only[A5]
        refine tJ 10 171 rfl ?_
        try simp only[A5]
        refine wpAnyH_ready (rs:=[11]) (by kernel_rfl) (by simp) ?_;refine AllReadyH.cons (o:=⟨some 172,_,_,_,_,_⟩) rfl (fun K hK=>?_) AllReadyH.nil;go_simp;refine (B1u kind 0 0 (sz:Int) hk (by omega) (by omega) ⟨by omega,by omega⟩ _).mono ?_;rintro e w4 ⟨rfl,hq⟩;have HX4:Hid (A0 wB w4):=A0.trans_ (by first|exact hHXD.out|exact hHXD.out.drew_|exact hHXD.out.drewN_ _) hq;clear hq;have g3:=HX4.out.cell_ c3;have gq:=HX4.out.cell_ q0;have gc:=HX4.out.cell_ hcell;have gf:w4.frozen? ⟨g,at_,none⟩=false:=by rw[HX4.out.three.2.1 _ _ hgl];exact hfg
        refine hK.out _ _ ?_ (fun hH=>?_)
        ·(try dsimp only);exact⟨gq,g3⟩
        clear hK K
        try simp only[A5]
        refine tJ 12 173 rfl ?_
        try simp only[A5]
        refine wpAnyH_ready (rs:=[13]) (by kernel_rfl) (by simp) ?_;refine AllReadyH.cons (o:=⟨none,_,_,_,_,_⟩) rfl (fun K hK=>?_) AllReadyH.nil;go_simp;skip;refine hK.out _ _ ?_ (fun hH=>?_)
        ·(try dsimp only);exact⟨by rw[World.cell?_setCell_far _ _ _ _ (by simp;omega)];exact gq,by rw[World.cell?_setCell_far _ _ _ _ (by simp;omega)];exact g3⟩
        clear hK K
        try simp only[A5]
        refine wpAnyH_done (by kernel_rfl) ?_ _;clear hH;obtain⟨z1,z2⟩:=(HH2.out.ext HX4.out).setW HG.out at_ hlen (J7 kind 0 0 sz);have HS5:=Hz ((HS2.out.trans_ (D7.of_ext HX4.out)).trans_ z2);generalize w4.setCell ⟨g,at_,none⟩ (Value.int .u64 (J7 kind 0 0 sz))=w5 at *
        have p0:=z1.ptr;have p6:w5.cell? ⟨b,6,none⟩=some (.int .i64 M2.oldTop):=z1.mem.num (6,M2.oldTop) (by simp[L5]);have pf:=OM.frozen z1.mem 6;have HH5:=Hz z1;clear z1 z2 g3 gq gc gf
        go_wp2_with fail
        go_meet
        case rel =>
         obtain⟨z1,z2⟩:=HH5.out.setOldTop (M2.oldTop+n);exact⟨hC3.out,by rw[hA.out],S2,by rw[Hid,hHd.out];exact z1,HS5.out.trans_ z2⟩
       ·have hC3:Hid (o3C M2 n=6):=by unfold Hid o3C;rw[if_neg g1,if_neg g2]
        have k5:=(HE2.out.ext hHXC.out).full
        go_upto_if 118 with (go_region)
        go_upto_region 14 with fail
        go_region
        go_upto_if 143 with fail
        go_upto_region 11 with fail
        go_region;go_wp2
        go_ret2
        have hn:=HN.out;subst hn;have hM1:=HM1.out;subst hM1;obtain⟨r1,r2,r3⟩:=E8p (ten:=ten) (kind:=kind) (sz:=sz) HC1.out HC2.out (by unfold Y8;rw[←HM2.out];exact hC3.out);unfold B2x;rw[r1,r2,r3];unfold Y8;rw[←HM2.out];exact⟨rfl,S2,(HH2.out.ext hHXC.out).ext eX,(HS2.out.trans_ (D7.of_ext hHXC.out)).trans_ (D7.of_ext eX)⟩
     case rest =>
      obtain⟨HC3,rfl,S3,HH3,HS3⟩:=hcut;obtain⟨wE,rfl⟩:∃ x,x=wc:=⟨wc,rfl⟩;have hn:=HN.out;obtain⟨hA1,hA2⟩:=D5k (kind:=kind) (sz:=sz) HSH.out (by rw[←hn];exact HC3.out);rw[←hn] at hA1 hA2;obtain⟨A,hA⟩:∃ A,A=atM M2 n:=⟨_,rfl⟩;rw[←hA] at hA1 ⊢;have HA:=Hz hA;have HA2:=Hz hA2;have hwl:M2.W.length≤1000000:=by omega
      have f1:IntKind.i64.wrap ((A:Int)+1)=((A+1:Nat):Int):=by rw[Za _ (by omega)];omega
      have f2:IntKind.i64.wrap ((A:Int)+n)=(A:Int)+n:=Za _ (by omega);clear q0 c0 c1 c5 c6 q0' c0' c1' c5' c6' e1 e2 e3 e4 e5 hA hA2 hn hHXC hsb
      go_upto_if 187 with (first
       | (go_at_call 39;refine (D8b _).mono ?_;rintro e w9 ⟨rfl,hw9⟩;have hw9:=hw9.symm;subst hw9)
       | (go_at_call 89;refine (A3l _ _).mono ?_;rintro e w9 ⟨rfl,hw9⟩;have hw9:=hw9.symm;subst hw9))
      go_cut [12,187] from 186 to 187 (fun a c wx=>a=.int .u64 (L0 kind)∧wx=wE)
      case first =>
       cases hr:D2 kind with
       | true =>
        go_wp2_with fail
        go_meet
        case rel=>exact⟨by unfold L0;rw[hr];rfl,rfl⟩
       | false =>
        go_wp2_with fail
        go_meet
        case rel=>exact⟨by unfold L0;rw[hr];rfl,rfl⟩
      case rest =>
       obtain⟨rfl,rfl⟩:=hcut;obtain⟨g,hg,hgB,-,-,-,-⟩:=Q3 (B7.fW HH3.out.mem) (by rw[HA2.out];omega);have HG:=Hz hg;clear hg;go_wp2
       go_loopw [13] (fun i wr=>∃ k j:Nat,Hid (j=A+1+k)∧k≤sz∧i=.int .i64 (j:Int)∧Hid (E7 wr B hb b (A1s M2 kind sz k) S3 ten nx)∧Hid (D7 hb b w S wr S3)) (fun i _=>A+1+sz-(intOf i).toNat)
       case atStart=>exact⟨0,A+1,rfl,Nat.zero_le _,rfl,by rw[Hid,E0f,←HN.out];exact HH3.out,HS3.out⟩
       case round =>
        obtain⟨k,j,hj,hk2,rfl,hO,hS⟩:=hrel;have hL:(A1s M2 kind sz k).W.length=M2.W.length:=by
         unfold A1s;simp only;rw[F5z _ _ _ _ (by rw[←HN.out,HA2.out,←HA.out];omega),←HN.out,HA2.out]
        by_cases hlt:k<sz
        ·have hltz:(j:Int)<(A:Int)+n:=by have:=HN.out;have:=hj.out;omega
         have hjl:j<M2.W.length:=by have:=hj.out;omega
         have f3:IntKind.i64.wrap ((j:Int)+1)=((j+1:Nat):Int):=by rw[Za _ (by omega)];omega
         have q0:=hO.out.ptr;obtain⟨g',hg',-,-,hgf,-,-⟩:=Q3 (B7.fW hO.out.mem) (by rw[hL];omega);obtain rfl:g'=g:=by rw[HG.out] at hg';injection hg' with hg';injection hg' with hg';exact hg'.symm
         have hfg:=hgf j;have c3:=(hO.out.mem.fld ⟨3,78,1,S3.W.1,(A1s M2 kind sz k).W.length,S3.W.2,C5 (A1s M2 kind sz k).W⟩ (by simp[F3])).1;have hcell:=((R4 (B7.fW hO.out.mem)).1);rw[HG.out] at hcell
         replace hcell:=hcell.at_ (K2 (A1s M2 kind sz k).W j (by rw[hL];exact hjl))
         simp only[Zk] at hcell;simp only[I6.val,HG.out,hL] at c3;obtain⟨z1,z2⟩:=hO.out.setW HG.out j (by rw[hL];exact hjl) (L0 kind);have hnx:{A1s M2 kind sz k with W:=(A1s M2 kind sz k).W.set j (L0 kind)}=A1s M2 kind sz (k+1):=by
          rw[hj.out,HA.out];have:=HN.out;subst this;exact E0e _ _ _ _ (by rw[HA2.out,←HA.out];omega)
         rw[hnx] at z1;have HZ1:=Hz z1;have HZ2:=Hz (hS.out.trans_ z2);have HJ:=Hz hj.out;generalize (A1s M2 kind sz k).W.getD j 0=xx at *
         clear z1 z2 hnx hg' hgf hL hj;go_wp2
         go_roundw
         case rel=>exact⟨k+1,j+1,by have:=HJ.out;unfold Hid;omega,by omega,by go_num,HZ1.out,HZ2.out⟩
         case measure=>have:=HJ.out;simp[intOf];omega
        ·have hltz:¬(j:Int)<(A:Int)+n:=by have:=HN.out;have:=hj.out;omega
         have hk3:k=sz:=by omega
         rw[hk3] at hO;have HFIN:=Hz (E8q (E:=E) HN.out HM1.out HM2.out HC1.out HC2.out HC3.out HA.out hO.out hS.out);clear hL hk3 hO hS hj;go_wp2
         go_ret2
         exact HFIN.out
end
section
variable {M:A7} {ten nx:Int}
theorem C9l {sz:Nat} (h:J0 M ten sz=0):o1C M (1+sz)=0∧o2C (T6 M ten (1+sz)) (1+sz)=0∧o3C (Y8 M ten sz) (1+sz)=0:=by
 have h0:=h;unfold J0 at h
 split at h
 ·rename_i h1
  split at h
  ·rename_i h2;exact⟨h1,h2,by unfold Y8;exact h⟩
  ·rename_i h2;exact absurd h h2
 ·rename_i h1;exact absurd h h1
theorem E0g (kind:Int):0≤L0 kind∧L0 kind≤18446744073709551615:=by unfold L0;split<;>omega
theorem C5l (kind:Int) (h:D2 kind=false):D0 [] (L0 kind)=true∧C7 (L0 kind)≠0:=by
 unfold L0;rw[h];decide
structure C3u (M N:A7) (kind:Int) (sz a:Nat):Prop where
 good:∃ lN lO,L7 N lN lO∧a∈lN++lO
 hd:A6 N.W a=J7 kind 0 0 sz
 len:a+1+sz≤N.W.length
 fld:∀ j,j<sz→A6 N.W (a+1+j)=L0 kind
theorem C9j (h:D6 M nx) (kind:Int) (sz:Nat) (hk:0≤kind∧kind≤255) (hz:sz≤4096) (hc:o3C M (1+sz)=0) :
  D6 (o3M M kind (List.replicate sz (L0 kind))) nx∧Q8 M (o3M M kind (List.replicate sz (L0 kind)))∧C3u M (o3M M kind (List.replicate sz (L0 kind))) kind sz (atM M (1+sz)):=by
 have hs:=(K5 (L8 h.chk).1).1;have h1:=hs.h1;have h2:=hs.t2;have h5:=hs.base;have h7:=hs.t1;have h8:=hs.w;have h9:=hs.p2;have h10:=hs.p1;have h11:=hs.o1;have hl:(List.replicate sz (L0 kind)).length=sz:=by simp
 have hu:∀ x∈List.replicate sz (L0 kind),0≤x∧x≤18446744073709551615:=fun x hx=>by rw[(Zj.1 hx).2];exact E0g kind
 have hf:D2 kind=false→∀ x∈List.replicate sz (L0 kind),D0 [] x=true∧C7 x≠0:=fun hr x hx=>by rw[(Zj.1 hx).2];exact C5l kind hr
 have hgt:∀ j,j<sz→(List.replicate sz (L0 kind)).getD j 0=L0 kind:=fun j hj=>by rw[Zb,Zd,if_pos hj];rfl
 unfold o3M atM;rw[hl];by_cases q:M.top+(1+(sz:Int))≤M.half
 ·rw[if_pos q,if_pos q];have hw:M.base+M.top.toNat+1+(List.replicate sz (L0 kind)).length≤M.W.length:=by rw[hl];omega
  obtain⟨g1,g2,lN,lO,g3,g4⟩:=E7s h kind (List.replicate sz (L0 kind)) hk (by rw[hl];exact hz) (by rw[hl];omega) hu fun hr x hx=>(hf hr x hx).1
  refine⟨g1,g2,?_⟩;constructor
  ·exact⟨lN,lO,g3,g4⟩
  ·have:=B7o M.W (M.base+M.top.toNat) kind _ hw;rw[hl] at this;exact this
  ·show _≤(A2k M.W (M.base+M.top.toNat) kind _).length;rw[B2c _ _ _ _ hw];rw[hl] at hw;exact hw
  ·intro j hj;exact (B7n M.W (M.base+M.top.toNat) kind _ hw j (by rw[hl];exact hj)).trans (hgt j hj)
 ·rw[if_neg q,if_neg q];have q2:1+(sz:Int)≤M.old-M.oldTop:=by
   unfold o3C at hc;rw[if_neg q] at hc
   split at hc
   ·assumption
   ·omega
  have hw:(2*M.half).toNat+M.oldTop.toNat+1+(List.replicate sz (L0 kind)).length≤M.W.length:=by rw[hl];omega
  obtain⟨g1,g2,lN,lO,g3,g4⟩:=E7t h kind (List.replicate sz (L0 kind)) hk (by rw[hl];exact hz) (by rw[hl];omega) hu hf;refine⟨g1,g2,?_⟩;constructor
  ·exact⟨lN,lO,g3,g4⟩
  ·have:=B7o M.W ((2*M.half).toNat+M.oldTop.toNat) kind _ hw;rw[hl] at this;exact this
  ·show _≤(A2k M.W ((2*M.half).toNat+M.oldTop.toNat) kind _).length;rw[B2c _ _ _ _ hw];rw[hl] at hw;exact hw
  ·intro j hj;exact (B7n M.W ((2*M.half).toNat+M.oldTop.toNat) kind _ hw j (by rw[hl];exact hj)).trans (hgt j hj)
theorem A4z (ht:0≤ten∧ten≤15) (h:D6 M nx) (kind:Int) (sz:Nat) (hk:0≤kind∧kind≤255) (hz:sz≤4096) :
  D6 (J1 M ten kind sz) nx∧Q8 M (J1 M ten kind sz)∧(J0 M ten sz=0→∃ a:Nat,U1 M ten sz=(a:Int)∧C3u (Y8 M ten sz) (J1 M ten kind sz) kind sz a):=by
 obtain⟨m1,m2⟩:=C8l (sz:=sz) ht h;by_cases hc:J0 M ten sz=0
 ·obtain⟨c1,c2,c3⟩:=C9l hc;obtain⟨r1,r2,r3⟩:=B7s (ten:=ten) (kind:=kind) (sz:=sz) c1 c2 c3;obtain⟨g1,g2,g3⟩:=C9j m1 kind sz hk hz c3;rw[r2];exact⟨g1,m2.trans g2,fun _=>⟨_,r3,g3⟩⟩
 ·refine⟨?_,?_,fun q=>absurd q hc⟩
  ·unfold J1;rw[if_neg hc]
   split
   ·exact m1
   ·exact (B0t ht h).1
  ·unfold J1;rw[if_neg hc]
   split
   ·exact m2
   ·exact (B0t ht h).2
end
def B4.new (I:B4) (kind:Int) (us:List Int):B4:={I with V:=I.V++J7 kind 0 0 us.length::us,P:=I.P++[I.V.length]}
def B0q (I:B4) (D:Nat→Prop) (a:Nat):Prop:=D a∨a=I.V.length
def A8l (I:B4) (p:Nat) (f:Nat→Nat) (a:Nat):Nat:=if a=I.V.length then p else f a
section
variable {I:B4} {M:A7} {D:Nat→Prop} {f:Nat→Nat}
theorem A8m (I:B4) (kind:Int) (us:List Int) {i:Nat} (h:i<I.V.length):A6 (I.new kind us).V i=A6 I.V i:=by
 unfold A6 B4.new;simp only[Zb,List.getElem?_append_left h]
theorem A3a (I:B4) (kind:Int) (us:List Int):A6 (I.new kind us).V I.V.length=J7 kind 0 0 us.length:=by
 unfold A6 B4.new;simp[Zb]
theorem A6j (I:B4) (kind:Int) (us:List Int) (j:Nat):A6 (I.new kind us).V (I.V.length+1+j)=us.getD j 0:=by
 unfold A6 B4.new;simp only[Zb];rw[List.getElem?_append_right (by omega),show I.V.length+1+j-I.V.length=j+1 by omega];rfl
theorem K7.new (h:K7 I M D f) {N:A7} {p:Nat} {kind:Int} {us:List Int} (hk:0≤kind∧kind≤255) (hz:us.length≤4096)
  (hW:∀ a,D a→∀ i,f a≤i→i<f a+1+A9 I.V a→A6 N.W i=A6 M.W i)
  (hobj:∀ b∈(D8 M).map (·.a),b∈(D8 N).map (·.a)) (hpo:p∈(D8 N).map (·.a)) (hpn:¬p∈(D8 M).map (·.a))
  (hd:A6 N.W p=J7 kind 0 0 us.length) (hr:N.roots=M.roots) (hwk:N.weak=M.weak) (hi:N.ids=M.ids)
  (hf:D2 kind=false→∀ j,j<us.length→Q6 f D (us.getD j 0) (A6 N.W (p+1+j)))
  (hraw:D2 kind=true→∀ j,j<us.length→A6 N.W (p+1+j)=us.getD j 0):K7 (I.new kind us) N (B0q I D) (A8l I p f):=by
 have hlt:∀ a,D a→a<I.V.length:=fun a ha=>by have:=h.dom a ha;omega
 have hcor:∀ {u v:Int},Q6 f D u v→Q6 (A8l I p f) (B0q I D) u v:=fun hc=>hc.mono fun a ha=>⟨Or.inl ha,by unfold A8l;rw[if_neg (by have:=hlt a ha;omega)]⟩
 have hF:∀ a,D a→A8l I p f a=f a:=fun a ha=>by unfold A8l;rw[if_neg (by have:=hlt a ha;omega)]
 have hP:A8l I p f I.V.length=p:=by unfold A8l;rw[if_pos rfl]
 obtain⟨d1,d2,d3,d4,d5⟩:=A1t kind 0 0 (us.length:Int) hk (by omega) (by omega) ⟨by omega,by omega⟩;have hw:∀ a,D a→A6 (I.new kind us).V a=A6 I.V a:=fun a ha=>A8m I kind us (hlt a ha)
 have hs:∀ a,D a→A9 (I.new kind us).V a=A9 I.V a:=fun a ha=>by unfold A9;rw[hw a ha]
 have hsn:A9 (I.new kind us).V I.V.length=us.length:=by unfold A9;rw[A3a,d5];omega
 have hWa:∀ a,D a→A6 N.W (f a)=A6 M.W (f a):=fun a ha=>hW a ha (f a) (Nat.le_refl _) (by omega)
 have hlen:(I.new kind us).V.length=I.V.length+1+us.length:=by unfold B4.new;simp;omega
 refine⟨⟨fun a b ha hb e=>?_,fun a ha=>?_,fun a ha=>?_,fun a ha hq k hk2=>?_,fun a ha hq k hk2=>?_⟩,fun a ha=>?_,fun a b ha hb hab=>?_,fun a ha=>?_,by rw[hr];exact h.lenR,fun i hi2=>by rw[hr];exact hcor (h.roots i hi2),by rw[hwk];exact h.lenK,fun i hi2=>?_,fun u s hu a ha hd2=>?_,fun v s hv=>?_,fun i hi2=>?_,fun u s hu=>?_,fun a ha=>?_⟩
 ·rcases ha with ha|rfl<;>rcases hb with hb|rfl
  ·rw[hF a ha,hF b hb] at e;exact h.morph.inj a b ha hb e
  ·rw[hF a ha,hP] at e;exact absurd (h.obj a ha) (by rw[e];exact hpn)
  ·rw[hF b hb,hP] at e;exact absurd (h.obj b hb) (by rw[←e];exact hpn)
  ·rfl
 ·rcases ha with ha|rfl
  ·rw[hF a ha,hWa a ha,hw a ha];exact h.morph.kind a ha
  ·rw[hP,hd,A3a]
 ·rcases ha with ha|rfl
  ·rw[hF a ha,hWa a ha,hw a ha];exact h.morph.size a ha
  ·rw[hP,hd,A3a]
 ·rcases ha with ha|rfl
  ·rw[hs a ha] at hk2;rw[hw a ha] at hq;have hl:=h.dom a ha;rw[hF a ha,A8m I kind us (by omega),hW a ha _ (by omega) (by omega)];exact hcor (h.morph.fld a ha hq k hk2)
  ·rw[hsn] at hk2;rw[A3a,d2] at hq;rw[hP,A6j];exact hcor (hf hq k hk2)
 ·rcases ha with ha|rfl
  ·rw[hs a ha] at hk2;rw[hw a ha] at hq;have hl:=h.dom a ha;rw[hF a ha,A8m I kind us (by omega),hW a ha _ (by omega) (by omega)];exact h.morph.raw a ha hq k hk2
  ·rw[hsn] at hk2;rw[A3a,d2] at hq;rw[hP,A6j];exact hraw hq k hk2
 ·rw[hlen];rcases ha with ha|rfl
  ·rw[hs a ha];have:=h.dom a ha;omega
  ·rw[hsn];omega
 ·rcases ha with ha|rfl
  ·rw[hs a ha];rcases hb with hb|rfl
   ·exact h.apart a b ha hb hab
   ·exact h.dom a ha
  ·rcases hb with hb|rfl
   ·have:=hlt b hb;omega
   ·omega
 ·rcases ha with ha|rfl
  ·rw[hF a ha];exact hobj _ (h.obj a ha)
  ·rw[hP];exact hpo
 ·rw[hwk];rcases h.weak i hi2 with c|⟨c1,a,c2,c3⟩
  ·exact Or.inl (hcor c)
  ·exact Or.inr ⟨c1,a,c2,fun q=>by
    rcases q with q|q
    ·exact c3 q
    ·have:=h.wkV i hi2;rw[c2] at this;omega⟩
 ·rw[hi];rcases hd2 with q|q
  ·obtain⟨v,c1,c2⟩:=h.ids1 u s hu a ha q;exact⟨v,hcor c1,c2⟩
  ·have:=h.idV u s hu;rw[ha] at this;omega
 ·rw[hi] at hv;obtain⟨u,c1,c2⟩:=h.ids2 v s hv;exact⟨u,c1,hcor c2⟩
 ·rw[hlen];have:=h.wkV i hi2;show B6 (I.weak.getD i 0)<_;omega
 ·rw[hlen];have:=h.idV u s hu;omega
 ·show a∈I.P++[I.V.length];rcases ha with ha|rfl
  ·exact Zi.2 (Or.inl (h.nodes a ha))
  ·simp
end
section
variable {I:B4} {M:A7} {D:Nat→Prop} {f:Nat→Nat} {ten nx:Int}
def Holds (I:B4) (M:A7):Prop:=∃ D f,K7 I M D f
theorem Holds.moved {N:A7} {go:Int→Int × Bool} {E:Nat→Prop} {g:Nat→Nat} (h:Holds I M) (hm:A7q M N go E g):Holds I N:=by
 obtain⟨D,f,h⟩:=h;exact⟨_,_,h.moved hm⟩
theorem Holds.major (h:Holds I M) (hI:D6 M nx):Holds I (A1y M):=by
 unfold A1y
 split
 ·rename_i hl;exact h.moved (C1o (hI.full hl))
 ·exact h
theorem Holds.minor (ht:0≤ten∧ten≤15) (h:Holds I M) (hI:D6 M nx):Holds I (A4x M ten):=by
 unfold A4x
 split
 ·rename_i hl;exact h.moved (C1q ⟨hI.ok,hI.chk,ht,by assumption⟩)
 ·exact h.major hI
theorem Holds.live (h:Holds I M) (hI:D6 M nx):O4 M=A1w I:=by
 obtain⟨D,f,h⟩:=h;exact h.live (L8 hI.chk).1
theorem Holds.mid (ht:0≤ten∧ten≤15) (h:Holds I M) (hI:D6 M nx) (sz:Nat):Holds I (Y8 M ten sz):=by
 have h1:Holds I (T6 M ten (1+sz)):=by
  unfold T6
  split
  ·exact h.minor ht hI
  ·exact h
 unfold Y8 o2M
 split
 ·exact h1.major (B0t ht hI).1
 ·exact h1
theorem C5m (kind:Int) (f:Nat→Nat) (D:Nat→Prop):Q6 f D (L0 kind) (L0 kind):=by
 left;refine⟨?_,rfl⟩;unfold L0
 split<;>decide
theorem K7.o3 (h:K7 I M D f) (hI:D6 M nx) (kind:Int) (sz:Nat) (hk:0≤kind∧kind≤255) (hz:sz≤4096) (hc:o3C M (1+sz)=0) :
  K7 (I.new kind (List.replicate sz (L0 kind))) (o3M M kind (List.replicate sz (L0 kind))) (B0q I D) (A8l I (atM M (1+sz)) f):=by
 obtain⟨g1,g2,g3⟩:=C9j hI kind sz hk hz hc;obtain⟨lN,lO,hg⟩:=A4r hI.chk;have hs:=hg.shp;have h1:=hs.h1;have h2:=hs.t2;have h5:=hs.base;have h7:=hs.t1;have h8:=hs.w;have h9:=hs.p2;have h10:=hs.p1;have h11:=hs.o1;have hl:(List.replicate sz (L0 kind)).length=sz:=by simp
 have hgt:∀ j,j<sz→(List.replicate sz (L0 kind)).getD j 0=L0 kind:=fun j hj=>by rw[Zb,Zd,if_pos hj];rfl
 have hall:(D8 M).map (·.a)=lN++lO:=by
  rw[hg.all,Zh];exact (Zf fun x _=>rfl).trans (Zg _)
 have hob:∀ a,D a→f a∈lN++lO:=fun a ha=>by rw[←hall];exact h.obj a ha
 have hsz:∀ a,D a→A9 M.W (f a)=A9 I.V a:=fun a ha=>by unfold A9;rw[h.morph.size a ha]
 have rn:=fun b hb=>hg.n.mem b hb
 have ro:=fun b hb=>hg.o.mem b hb
 have hfl:D2 kind=false→∀ x∈List.replicate sz (L0 kind),D0 [] x=true∧C7 x≠0:=fun hr x hx=>by rw[(Zj.1 hx).2];exact C5l kind hr
 have hds:=g3.hd;have hfs:=g3.fld;unfold o3M atM at hds hfs ⊢;rw[hl] at hds hfs ⊢;by_cases q:M.top+(1+(sz:Int))≤M.half
 ·simp only[if_pos q] at hds hfs ⊢;have hN:=hg.newN kind (List.replicate sz (L0 kind)) hk (by rw[hl];exact hz) (by rw[hl];omega) fun hr x hx=>B0l (by simp) (hfl hr x hx).1
  have hallN:(D8 (A6x M kind (List.replicate sz (L0 kind)))).map (·.a)=(lN++[M.base+M.top.toNat])++lO:=by
   rw[hN.all,Zh];exact (Zf fun x _=>rfl).trans (Zg _)
  have hw:M.base+M.top.toNat+1+(List.replicate sz (L0 kind)).length≤M.W.length:=by rw[hl];omega
  refine h.new hk (by rw[hl];exact hz) (fun a ha i i1 i2=>?_) (fun b hb=>?_) (by rw[hallN];simp) ?_ (by rw[hl];exact hds) rfl rfl rfl (fun hr j hj=>?_) (fun hr j hj=>?_)
  ·refine B7p _ _ _ _ hw i ?_;rw[hl];have hm:=hob a ha;have hz2:=hsz a ha;rcases Zi.1 hm with hm|hm
   ·have:=rn _ hm;left;omega
   ·have:=ro _ hm;right;omega
  ·rw[hall] at hb;rw[hallN];simp only[Zi,List.mem_singleton] at hb ⊢;rcases hb with hb|hb
   ·exact Or.inl (Or.inl hb)
   ·exact Or.inr hb
  ·rw[hall];intro hm;rcases Zi.1 hm with hm|hm
   ·have:=rn _ hm;omega
   ·have:=ro _ hm;omega
  ·rw[hl] at hj;rw[hgt j hj,hfs j hj];exact C5m kind f D
  ·rw[hl] at hj;rw[hgt j hj,hfs j hj]
 ·simp only[if_neg q] at hds hfs ⊢;have q2:1+(sz:Int)≤M.old-M.oldTop:=by
   unfold o3C at hc;rw[if_neg q] at hc
   split at hc
   ·assumption
   ·omega
  have hN:=hg.newO kind (List.replicate sz (L0 kind)) hk (by rw[hl];exact hz) (by rw[hl];omega) fun hr x hx=>⟨B0l (by simp) (hfl hr x hx).1,by unfold J5;simp[(hfl hr x hx).2]⟩
  have hallN:(D8 (A6y M kind (List.replicate sz (L0 kind)))).map (·.a)=lN++(lO++[(2*M.half).toNat+M.oldTop.toNat]):=by
   rw[hN.all,Zh];exact (Zf fun x _=>rfl).trans (Zg _)
  have hw:(2*M.half).toNat+M.oldTop.toNat+1+(List.replicate sz (L0 kind)).length≤M.W.length:=by rw[hl];omega
  refine h.new hk (by rw[hl];exact hz) (fun a ha i i1 i2=>?_) (fun b hb=>?_) (by rw[hallN];simp) ?_ (by rw[hl];exact hds) rfl rfl rfl (fun hr j hj=>?_) (fun hr j hj=>?_)
  ·refine B7p _ _ _ _ hw i ?_;rw[hl];have hm:=hob a ha;have hz2:=hsz a ha;rcases Zi.1 hm with hm|hm
   ·have:=rn _ hm;left;omega
   ·have:=ro _ hm;left;omega
  ·rw[hall] at hb;rw[hallN];simp only[Zi,List.mem_singleton] at hb ⊢;rcases hb with hb|hb
   ·exact Or.inl hb
   ·exact Or.inr (Or.inl hb)
  ·rw[hall];intro hm;rcases Zi.1 hm with hm|hm
   ·have:=rn _ hm;omega
   ·have:=ro _ hm;omega
  ·rw[hl] at hj;rw[hgt j hj,hfs j hj];exact C5m kind f D
  ·rw[hl] at hj;rw[hgt j hj,hfs j hj]
theorem Holds.obj (ht:0≤ten∧ten≤15) (h:Holds I M) (hI:D6 M nx) (kind:Int) (sz:Nat) (hk:0≤kind∧kind≤255) (hz:sz≤4096) (hc:J0 M ten sz=0) :
  ∃ D f,K7 (I.new kind (List.replicate sz (L0 kind))) (J1 M ten kind sz) (B0q I D) f∧U1 M ten sz=(f I.V.length:Int):=by
 obtain⟨m1,m2⟩:=C8l (sz:=sz) ht hI;obtain⟨c1,c2,c3⟩:=C9l hc;obtain⟨r1,r2,r3⟩:=B7s (ten:=ten) (kind:=kind) (sz:=sz) c1 c2 c3;obtain⟨D,f,hm⟩:=h.mid ht hI sz;refine⟨D,_,by rw[r2];exact hm.o3 m1 kind sz hk hz c3,?_⟩;rw[r3];unfold A8l;rw[if_pos rfl]
end
def A6w (l:List Int):List Value:=l.map fun x=>Value.int .i64 x
theorem E7c (l:List Int) (j:Nat) (h:j<l.length):(A6w l)[j]?=some (.int .i64 (l.getD j 0)):=by
 simp[A6w,h,Zb]
def B9h (w:World) (g:Nat) (lb:Array Value) (p:Int→Bool):Prop :=
 ∀ (W:World) (x:Int),A0 w W→-9223372036854775808≤x→x≤9223372036854775807→Calls Zl g (#[.int .i64 x]++lb) W fun e w'=>e=.returned (.bool (p x))∧A0 w w'
def D3t (w:World) (p:Int→Bool) (zs:List Int) (e:Ending) (w':World):Prop :=
 ∃ n:Int,e=.returned (.int .i64 n)∧decide (0≤n)=zs.any p∧A0 w w'
theorem E3k (p:Int→Bool) (g:Nat) (lb:Array Value) (eg:∀ args w,(callFunc g args).run Zl w=.ok (.enter g args) w) (a:Option Addr) (c:Nat) (zs:List Int) (w:World)
  (hz:zs.length≤9223372036854775807) (hR:F7 w a (A6w zs)) (hb:∀ x∈zs,-9223372036854775808≤x∧x≤9223372036854775807) (hp:B9h w g lb p) :
  Calls Zl 132 #[.slice a zs.length c,.func (.func g) #[] lb] w (D3t w p zs):=by
 have HP:=Hz hp;have HR:=Hz hR;have HB:=Hz hb;clear hp hR hb
 go_enter Tryz.func132,Tryz.ntmps132
 go_wp2
 go_loopw [5,8] (fun _ i wr=>∃ k:Nat,k≤zs.length∧i=.int .i64 (k:Int)∧Hid (A0 w wr)∧Hid (∀ j,j<k→p (zs.getD j 0)=false))
  (fun _ i _=>zs.length-(intOf i).toNat)
 case atStart=>exact⟨0,Nat.zero_le _,rfl,A0.refl w,fun j hj=>absurd hj (Nat.not_lt_zero _)⟩
 case round =>
  obtain⟨k,hk,rfl,hE,hA⟩:=hrel;by_cases hlt:k<zs.length
  ·obtain⟨b,off,rfl,hc⟩:=HR.out k _ (E7c zs k hlt)
   replace hc:=hE.out.cell_ hc
   have hin:-9223372036854775808≤zs.getD k 0∧zs.getD k 0≤9223372036854775807:=by
    rw[Zb,Zc hlt];exact HB.out _ (List.getElem_mem hlt)
   have hcall:=HP.out wr (zs.getD k 0) hE.out hin.1 hin.2;have hltz:(k:Int)<(zs.length:Int):=by omega
   generalize hy:zs.getD k 0=y at hc hcall hin;have HY:=Hz hy;clear hy
   cases hq:p y with
   | true =>
    have HQ:=Hz hq;rw[hq] at hcall;clear hq;go_wp2;refine hcall.mono ?_;rintro e w' ⟨rfl,hb'⟩;have HB':=Hz hb';clear hb';go_wp2;go_ret;refine⟨_,rfl,?_,HB'.out⟩;have:zs.any p=true:=List.any_eq_true.2 ⟨zs[k],List.getElem_mem hlt,by
     have:=HY.out;rw[Zb,Zc hlt] at this;simp at this;rw[this];exact HQ.out⟩
    rw[this];simp
   | false =>
    have HQ:=Hz hq;rw[hq] at hcall;clear hq;go_wp2;refine hcall.mono ?_;rintro e w' ⟨rfl,hb'⟩;have HB':=Hz hb';clear hb';go_wp2
    go_roundw
    case rel=>exact⟨k+1,by omega,by go_num,HB'.out,fun j hj=>by
     by_cases e:j=k
     ·subst e;rw[HY.out];exact HQ.out
     ·exact hA.out j (by omega)⟩
    case measure=>simp[intOf];omega
  ·have hltz:¬(k:Int)<(zs.length:Int):=by omega
   go_wp2;go_ret;refine⟨_,rfl,?_,hE.out⟩;have:zs.any p=false:=by
    rw[List.any_eq_false];intro x hx;obtain⟨j,hj,rfl⟩:=List.mem_iff_getElem.1 hx;have:=hA.out j (by omega);rw[Zb,Zc hj] at this;simpa using this
   rw[this];rfl
theorem D8h (p:Int→Bool) (g:Nat) (lb:Array Value) (eg:∀ args w,(callFunc g args).run Zl w=.ok (.enter g args) w) (a:Option Addr) (c:Nat) (zs:List Int) (w:World)
  (hz:zs.length≤9223372036854775807) (hR:F7 w a (A6w zs)) (hb:∀ x∈zs,-9223372036854775808≤x∧x≤9223372036854775807) (hp:B9h w g lb p) :
  Calls Zl 85 #[.slice a zs.length c,.func (.func g) #[] lb] w fun e w'=>e=.returned (.bool (zs.any p))∧A0 w w':=by
 go_enter Tryz.func85,Tryz.ntmps85
 go_wp2_with (go_at_call 132;refine (E3k p g lb eg a c zs _ hz hR hb hp).mono ?_;rintro e w' ⟨n,rfl,hn,hq⟩)
 go_ret;exact⟨rfl,hq⟩
end Go.Proofs.YtelhoppfidibiaaGreatDoor
