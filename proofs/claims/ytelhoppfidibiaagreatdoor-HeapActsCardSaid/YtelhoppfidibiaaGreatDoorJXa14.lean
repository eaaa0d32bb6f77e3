/- What Collect's own steps do to the collector's world. -/
import Derived.Test.YtelhoppfidibiaaGreatDoorJXa13
import Derived.Lib.SliceRun
set_option linter.unusedSimpArgs false
set_option linter.unusedVariables false
set_option maxHeartbeats 4000000
set_option maxRecDepth 100000
namespace Go.Proofs.YtelhoppfidibiaaGreatDoor
open Go.RowKit
open Bool renaming and_eq_true→Za
open Int renaming toNat_of_nonneg→Zb
open List renaming all_eq_true→Zc,contains_iff_mem→Zd,mem_append→Ze,mem_cons→Zf,mem_map→Zg,nil_append→Zh,not_mem_nil→Zi,pairwise_cons→Zj
open Nat renaming le_refl→Zk,zero_add→Zl
open Go.Proofs.Tryz renaming prog→Zm
open World renaming cell?_setCell_far→Zn,grownBy→Zo,ownsRow_nil→Zp
section
variable {w w':World} {B b:Nat} {tI:TypeId} {M:A7} {S:C8}
theorem B7.fR (h:B7 w B b tI M S):w.ownsRow B 78 1 (.slice S.R.1 M.roots.length S.R.2) M.roots.length (C5 M.roots):=(h.fld ⟨7,78,1,S.R.1,M.roots.length,S.R.2,C5 M.roots⟩ (by simp[F3])).2.1
theorem B7.fK (h:B7 w B b tI M S):w.ownsRow B 78 1 (.slice S.K.1 M.weak.length S.K.2) M.weak.length (C5 M.weak):=(h.fld ⟨8,78,1,S.K.1,M.weak.length,S.K.2,C5 M.weak⟩ (by simp[F3])).2.1
theorem B7.fI (h:B7 w B b tI M S):w.ownsRow B tI 2 (.slice S.I.1 M.ids.length S.I.2) M.ids.length (G0 M.ids):=(h.fld ⟨9,tI,2,S.I.1,M.ids.length,S.I.2,G0 M.ids⟩ (by simp[F3])).2.1
theorem B7.rowR (h:B7 w B b tI M S) {g:Nat} (hg:S.R.1=some ⟨g,0,none⟩) (hb:But g w w') (l:List Int) (hl:l.length=M.roots.length) (ho:w'.ownsRow B 78 1 (.slice S.R.1 M.roots.length S.R.2) M.roots.length (C5 l)):B7 w' B b tI {M with roots:=l} S:=by
 have:=OM.row (L1:=(F3 tI M S).take 1) (L2:=(F3 tI M S).drop 2) (f:=⟨7,78,1,S.R.1,M.roots.length,S.R.2,C5 M.roots⟩) h (g:=g) (by simp[I6.val,hg,Value.ownBlock]) hb ho;unfold B7 F3;simp only[hl];exact this
theorem B7.setR (h:B7 w B b tI M S) {g:Nat} (hg:S.R.1=some ⟨g,0,none⟩) (j:Nat) (hj:j<M.roots.length) (x:Int):B7 (w.setCell ⟨g,j,none⟩ (.int .u64 x)) B b tI {M with roots:=M.roots.set j x} S :=
 B7.rowR h hg (B1m w ⟨g,j,none⟩ _) _ (by simp) (by rw[C3j];exact B7x h.fR (by simp[hg,Value.ownBlock]) j hj _)
theorem B7.rowK (h:B7 w B b tI M S) {g:Nat} (hg:S.K.1=some ⟨g,0,none⟩) (hb:But g w w') (l:List Int) (hl:l.length=M.weak.length) (ho:w'.ownsRow B 78 1 (.slice S.K.1 M.weak.length S.K.2) M.weak.length (C5 l)):B7 w' B b tI {M with weak:=l} S:=by
 have:=OM.row (L1:=(F3 tI M S).take 2) (L2:=(F3 tI M S).drop 3) (f:=⟨8,78,1,S.K.1,M.weak.length,S.K.2,C5 M.weak⟩) h (g:=g) (by simp[I6.val,hg,Value.ownBlock]) hb ho;unfold B7 F3;simp only[hl];exact this
theorem B7.setK (h:B7 w B b tI M S) {g:Nat} (hg:S.K.1=some ⟨g,0,none⟩) (j:Nat) (hj:j<M.weak.length) (x:Int):B7 (w.setCell ⟨g,j,none⟩ (.int .u64 x)) B b tI {M with weak:=M.weak.set j x} S :=
 B7.rowK h hg (B1m w ⟨g,j,none⟩ _) _ (by simp) (by rw[C3j];exact B7x h.fK (by simp[hg,Value.ownBlock]) j hj _)
theorem B7.setUsed (h:B7 w B b tI M S) (v:Int):B7 (w.setCell ⟨b,4,none⟩ (.int .i64 v)) B b tI {M with used:=v} S :=
 OM.setNum (n1:=[(0,M.half),(1,M.old),(2,M.card)]) (n2:=[(5,M.top),(6,M.oldTop)]) h v
theorem B7.own_size (h:B7 w B b tI M S) {k:Nat} (hk:G1 b S k):B≤k∧k<w.heap.size:=by
 rcases hk with rfl|hk|hk|hk|hk|hk
 ·exact⟨h.hb,OM.lt h⟩
 ·exact h.fW.lt k (by rw[hk];rfl)
 ·exact h.fR.lt k (by rw[hk];rfl)
 ·exact h.fK.lt k (by rw[hk];rfl)
 ·exact h.fI.lt k (by rw[hk];rfl)
 ·exact h.fC.lt k (by rw[hk];rfl)
theorem B7.putI (h:B7 w B b tI M S) (a:Option Addr) (c:Nat) (l:List (Int × Int)) (ho:w.ownsRow B tI 2 (.slice a l.length c) l.length (G0 l)) (hn:∀ k,(Value.slice a l.length c).ownBlock=some k→¬G1 b S k) :
  B7 (w.setCell ⟨b,9,none⟩ (.slice a l.length c)) B b tI {M with ids:=l} {S with I:=(a,c)}:=by
 have hnb:(Value.slice a l.length c).ownBlock≠some b:=fun e=>hn b e (Or.inl rfl)
 have hown:∀ f∈F3 tI M S,∀ k,f.val.ownBlock=some k→G1 b S k:=fun f hf k hk=>by
  have ho':=(h.fld f hf).2.1;have ha:f.a=some ⟨k,0,none⟩:=by
   rcases ho'.2 with⟨h2,_⟩|⟨g,cap,cur,hv,_⟩
   ·rw[h2] at hk;cases hk
   ·rw[hv] at hk;simp[Value.ownBlock] at hk;subst hk;unfold I6.val at hv;injection hv
  simp only[F3,Zf,Zi,or_false] at hf;rcases hf with rfl|rfl|rfl|rfl|rfl<;>simp_all [G1]
 have hb:=h.fld;have hp:=h.apart;have fresh:∀ f∈F3 tI M S,∀ k,f.val.ownBlock=some k→(Value.slice a l.length c).ownBlock≠some k:=fun f hf k hk e=>hn k e (hown f hf k hk)
 refine⟨h.hb,A3g h.blk,fun p hpm=>?_,fun f hf=>?_,?_,h.offs⟩
 ·rw[J4 (fun e=>by
   have:p∈L5 M:=hpm;simp only[L5,Zf,Zi,or_false] at this;rcases this with rfl|rfl|rfl|rfl|rfl|rfl<;>simp at e)]
  exact h.num p hpm
 ·simp only[F3,Zf,Zi,or_false] at hf;rcases hf with rfl|rfl|rfl|rfl|rfl
  ·have q:=hb ⟨3,78,1,S.W.1,M.W.length,S.W.2,C5 M.W⟩ (by simp[F3]);exact⟨by rw[J4 (by simp)];exact q.1,A4i q.2.1 q.2.2 _,q.2.2⟩
  ·have q:=hb ⟨7,78,1,S.R.1,M.roots.length,S.R.2,C5 M.roots⟩ (by simp[F3]);exact⟨by rw[J4 (by simp)];exact q.1,A4i q.2.1 q.2.2 _,q.2.2⟩
  ·have q:=hb ⟨8,78,1,S.K.1,M.weak.length,S.K.2,C5 M.weak⟩ (by simp[F3]);exact⟨by rw[J4 (by simp)];exact q.1,A4i q.2.1 q.2.2 _,q.2.2⟩
  ·have q:=hb ⟨9,tI,2,S.I.1,M.ids.length,S.I.2,G0 M.ids⟩ (by simp[F3]);exact⟨A1c q.1,A4i ho hnb _,hnb⟩
  ·have q:=hb ⟨10,4,1,S.C.1,M.cards.length,S.C.2,R7 M.cards⟩ (by simp[F3]);exact⟨by rw[J4 (by simp)];exact q.1,A4i q.2.1 q.2.2 _,q.2.2⟩
 ·have e:F3 tI M S=[⟨3,78,1,S.W.1,M.W.length,S.W.2,C5 M.W⟩,⟨7,78,1,S.R.1,M.roots.length,S.R.2,C5 M.roots⟩,⟨8,78,1,S.K.1,M.weak.length,S.K.2,C5 M.weak⟩,⟨9,tI,2,S.I.1,M.ids.length,S.I.2,G0 M.ids⟩,⟨10,4,1,S.C.1,M.cards.length,S.C.2,R7 M.cards⟩]:=rfl;rw[e] at hp fresh;simp only[Zj,Zf,Zi,or_false,forall_eq_or_imp,forall_eq,List.Pairwise.nil,and_true] at hp fresh;obtain⟨⟨a1,a2,a3,a4⟩,⟨b1,b2,b3⟩,⟨c1,c2⟩,d1,-⟩:=hp;obtain⟨f1,f2,f3,f4,f5⟩:=fresh;show List.Pairwise _ [_,_,_,_,_];simp only[Zj,Zf,Zi,or_false,forall_eq_or_imp,forall_eq,List.Pairwise.nil,and_true];exact⟨⟨a1,a2,f1,a4⟩,⟨b1,f2,b3⟩,⟨f3,c2⟩,fun k hk e=>f5 k e hk,fun _ h=>h.elim⟩
end
section
variable {w w1 wr:World} {B b:Nat} {M:A7} {S:C8} {X X':Pl} {C C':D9} {ten:Int}
theorem E8u (hO:B7 w B b 140 M S) (hx:A0 w w1) (hB:B≤w.heap.size) :
  At ((w1.alloc (.map #[] 0)).alloc (.cells #[.pointer (some ⟨b,0,none⟩),.int .i64 ten,.int .i64 ((1-M.used)*M.half),.int .i64 0,.map (some w1.heap.size),.slice none 0 0] 151)).drew.drew.drew B b S ⟨w1.heap.size+1,w1.heap.size,.slice none 0 0⟩ ⟨w1.heap.size+1,w1.heap.size,.slice none 0 0⟩ (A3y M ten)
   ((w1.alloc (.map #[] 0)).alloc (.cells #[.pointer (some ⟨b,0,none⟩),.int .i64 ten,.int .i64 ((1-M.used)*M.half),.int .i64 0,.map (some w1.heap.size),.slice none 0 0] 151)).drew.drew.drew ∧
  A0 w ((w1.alloc (.map #[] 0)).alloc (.cells #[.pointer (some ⟨b,0,none⟩),.int .i64 ten,.int .i64 ((1-M.used)*M.half),.int .i64 0,.map (some w1.heap.size),.slice none 0 0] 151)).drew.drew.drew:=by
 have hE:A0 w ((w1.alloc (.map #[] 0)).alloc (.cells #[.pointer (some ⟨b,0,none⟩),.int .i64 ten,.int .i64 ((1-M.used)*M.half),.int .i64 0,.map (some w1.heap.size),.slice none 0 0] 151)).drew.drew.drew:=(((hx.alloc_ _).alloc_ _).drew_).drew_.drew_;have hsz:=hx.size;have hA:∀ k,G1 b S k→k<w.heap.size:=fun k hk=>(hO.own_size hk).2
 have hbk:(((w1.alloc (.map #[] 0)).alloc (.cells #[.pointer (some ⟨b,0,none⟩),.int .i64 ten,.int .i64 ((1-M.used)*M.half),.int .i64 0,.map (some w1.heap.size),.slice none 0 0] 151)).drew.drew.drew).heap[w1.heap.size+1]?=some (.cells #[.pointer (some ⟨b,0,none⟩),.int .i64 ten,.int .i64 ((1-M.used)*M.half),.int .i64 0,.map (some w1.heap.size),.slice none 0 0] 151 (0,0)):=by
  have:=heap_alloc_new (w1.alloc (.map #[] 0)) (.cells #[.pointer (some ⟨b,0,none⟩),.int .i64 ten,.int .i64 ((1-M.used)*M.half),.int .i64 0,.map (some w1.heap.size),.slice none 0 0] 151);simpa [World.drew] using this
 refine⟨⟨rfl,rfl,⟨OM.ext hO hE,by simp only;omega,by simp only;omega,fun e=>by have:=hA _ e;simp only at this;omega,fun e=>by have:=hA _ e;simp only at this;omega,by simp only;omega,fun k hk=>by simp[Value.ownBlock] at hk,⟨_,151,hbk⟩,?_,?_,?_,?_,?_,?_,?_,Or.inl ⟨rfl,rfl⟩⟩,A8.refl _ _,fun k hk=>Or.inl hk⟩,hE⟩
 all_goals first|(simp[go_sem,A3y];done)|skip
 exact (N8.made w1 .i64).ext ((((A0.refl _).alloc_ _).drew_).drew_.drew_)
theorem F1i (h:G7 w B b C S X) {g:Nat} (hg:S.R.1=some ⟨g,0,none⟩) (j:Nat) (hj:j<C.M.roots.length) (x:Int):A3e w B b S X {C with M:={C.M with roots:=C.M.roots.set j x}} (w.setCell ⟨g,j,none⟩ (.int .u64 x)) :=
 have hA:G1 b S g:=Or.inr (Or.inr (Or.inl hg));have hk:A8 (G1 b S) w (w.setCell ⟨g,j,none⟩ (.int .u64 x)):=A8.set_ (A8.refl _ w) (p:=⟨g,j,none⟩) (Or.inl hA) _
 ⟨X,rfl,rfl,h.onMem (h.mem.setR hg j hj x) hk,hk.sub fun k q=>Or.inl q,fun k q=>Or.inl q⟩
theorem D1o (h:G7 w B b C S X) {g:Nat} (hg:S.K.1=some ⟨g,0,none⟩) (j:Nat) (hj:j<C.M.weak.length) (x:Int):A3e w B b S X {C with M:={C.M with weak:=C.M.weak.set j x}} (w.setCell ⟨g,j,none⟩ (.int .u64 x)) :=
 have hA:G1 b S g:=Or.inr (Or.inr (Or.inr (Or.inl hg)));have hk:A8 (G1 b S) w (w.setCell ⟨g,j,none⟩ (.int .u64 x)):=A8.set_ (A8.refl _ w) (p:=⟨g,j,none⟩) (Or.inl hA) _
 ⟨X,rfl,rfl,h.onMem (h.mem.setK hg j hj x) hk,hk.sub fun k q=>Or.inl q,fun k q=>Or.inl q⟩
end
theorem E0o {C:D9} {a:Int} (hc:A7m C a):(F9 C a).2.M.roots=C.M.roots:=(E0n hc).roots
def C3o (w:World) (B b:Nat) (S:C8) (M:A7) (e:Ending) (w':World):Prop :=
 e=.returned .nilIface∧∃ S':C8,B7 w' B b 140 M S'∧A8 (G1 b S) w w'∧∀ k,G1 b S' k→G1 b S k∨w.heap.size≤k
theorem E0y (args:Array Value) (w:World):(callFunc 93 args).run Zm w=.ok (.enter 93 args) w :=
 enters_of Tryz.func93 (by kernel_rfl) rfl args w
def A6c (v:List Ob):List Int:=(v.filter fun x=>!D2 (B3 x.w)).map fun x=>(x.a:Int)
theorem C5t (v:List Ob) (x:Ob):A6c (v++[x])=if D2 (B3 x.w) then A6c v else A6c v++[(x.a:Int)]:=by
 unfold A6c;rw[List.filter_append,List.map_append]
 cases h:D2 (B3 x.w)<;>simp[h]
theorem E1b (v:List Ob):(A6c v).length≤v.length:=by unfold A6c;rw[List.length_map];exact List.length_filter_le _ _
def D3o (w0 w:World) (fb:Nat) (l:List Int) (e:Ending) (w':World):Prop :=
 e=.returned (.bool true)∧∃ v',A0l w' w0.heap.size fb l v'∧A8 (fun k=>w0.heap.size≤k) w w'
theorem E0x (w0:World) (b o:Nat) (M:A7) (S:C8) (hM:G8 w0 b o M S) (gb gs:Addr) (hG:A1o w0 gb) (hS:A0d w0 gs) (w:World) (hE:A0 w0 w) (fb:Nat) (v0:Value) (hF:A0l w w0.heap.size fb [] v0)
  (lo hi:Nat) (h1:lo≤hi) (h2:hi≤M.W.length) (hlen:M.W.length≤196608) (hp:(part M.W lo hi).2=true) :
  Calls Zm 92 #[.pointer (some ⟨b,o,none⟩),.int .i64 (lo:Int),.int .i64 (hi:Int),.func (.func 93) #[] #[.pointer (some ⟨fb,0,none⟩)]] w (D3o w0 w fb (B3x M.W lo hi)):=by
 have hpl:=A9n M.W (hi-lo) lo hi;refine (D9c w0 b o M S hM gb gs hG hS (fun k=>w0.heap.size≤k) _ #[.pointer (some ⟨fb,0,none⟩)] E0y (fun _=>true) (fun v w'=>∃ v',A0l w' w0.heap.size fb (A6c v) v')
  w hE (fun k hk=>hk) (fun w' k=>k=fb∨∃ v,w'.cell? ⟨fb,0,none⟩=some v∧v.ownBlock=some k) (fun v w' w'' k hI hx hk=>?_) (fun v w1 w2 ⟨v',hI⟩ hx=>⟨v',hI.ext hx⟩) lo hi h2 hlen [] (fun v x w' hI hK hx hvl=>?_) h1 ⟨v0,hF⟩).mono ?_
 ·obtain⟨v',hI⟩:=hI;rcases hk with rfl|⟨u,hu,hk⟩
  ·exact hI.lt
  ·rw[hx.cell_ hI.cell] at hu;injection hu with hu;subst hu;exact (hI.row.lt hk).2
 ·obtain⟨v',hI⟩:=hI;have hfl:=E1b v;have hpl':(part M.W lo hi).1.length≤hi-lo:=hpl;have key:∀ l e w'',B9b w' w0.heap.size fb v' l e w''→l=A6c (v++[x])→e=.returned (.bool true)∧(∃ v',A0l w'' w0.heap.size fb (A6c (v++[x])) v')∧A8 (fun k=>w0.heap.size≤k) w' w''∧A8 (fun k=>k=fb∨∃ u,w'.cell? ⟨fb,0,none⟩=some u∧u.ownBlock=some k) w' w'':=fun l e w'' ⟨q1,v2,q2,q3,q4⟩ hl=>by
   subst hl;refine⟨q1,⟨v2,q2⟩,q3.sub fun k hk=>?_,q3.sub fun k hk=>?_⟩
   ·rcases hk with rfl|hk
    ·exact hI.hb
    ·exact (hI.row.lt hk).1
   ·rcases hk with rfl|hk
    ·exact Or.inl rfl
    ·exact Or.inr ⟨v',hI.cell,hk⟩
  cases hr:D2 (B3 x.w) with
  | true=>exact (E1a w0.heap.size fb (A6c v) v' (x.a:Int) x.w w' hI hr).mono fun e w'' h=>key _ e w'' h (by rw[C5t,hr];rfl)
  | false=>exact (E0z w0.heap.size fb (A6c v) v' (x.a:Int) x.w w' hI hr (by simp at hvl;omega)).mono fun e w'' h=>key _ e w'' h (by rw[C5t,hr];rfl)
 ·rintro e w' ⟨v,he,⟨v',hI⟩,hv,hK⟩;have hall:((part M.W lo hi).2&&(part M.W lo hi).1.all fun _=>true)=true:=by rw[hp];simp
  rw[hall] at he;have:=hv hall;subst this;exact⟨he,v',hI,hK⟩
theorem C6h (g:Nat) (t:TypeId):∀ (vs:List Value) (o:Nat) (cur:List Value) (w:World),w.heap[g]?=some (.cells cur.toArray t (0,0))→o+vs.length≤cur.length →
  (w.setCells g o vs).heap[g]?=some (.cells (splice cur o vs).toArray t (0,0))∧But g w (w.setCells g o vs)
 | [],o,cur,w,h,_=>⟨by simpa [World.setCells,splice] using h,rfl,rfl,rfl,rfl,fun _ _=>rfl⟩
 | v::vs,o,cur,w,h,hl=>by
  rw[List.length_cons] at hl;have h1:=heap_setCell_same w g o cur.toArray t v h;rw[List.setIfInBounds_toArray] at h1;obtain⟨h2,h3⟩:=C6h g t vs (o+1) (cur.set o v) (w.setCell ⟨g,o,none⟩ v) h1 (by rw[List.length_set];omega);refine⟨?_,?_⟩
  ·unfold World.setCells;rw[h2];have e:splice (cur.set o v) (o+1) vs=splice cur o (v::vs):=by
    unfold splice;have e1:(cur.set o v).take (o+1)=cur.take o++[v]:=by
     rw[List.take_add_one,List.getElem?_set_self (by omega),List.take_set_of_le (Zk o)];rfl
    have e2:(cur.set o v).drop (o+1+vs.length)=cur.drop (o+(v::vs).length):=by
     rw[List.length_cons,show o+1+vs.length=o+(vs.length+1) by omega,List.drop_set_of_lt (by omega)]
    rw[e1,e2];simp
   rw[e]
  ·have hb:=B1m w ⟨g,o,none⟩ v;exact⟨h3.os.trans hb.os,h3.tape.trans hb.tape,h3.output.trans hb.output,h3.size.trans hb.size,fun k hk=>(h3.block k hk).trans (hb.block k hk)⟩
theorem D1h {P:Program} {w:World} (t e:TypeId) (z:Value) (ht:P.underlying t=some (.slice e)) (hv:∀ w,(zeroValue e).run P w=.ok z w) (hz:z.cells=#[z]) (h1:z.oneCell'=true) (g n c:Nat) (cur:List Value) (hn:0<n)
  (hg:w.heap[g]?=some (.cells cur.toArray e (0,0))) (hl:n≤cur.length) :
  ∃ w',(∀ ty,(Builtin.clear_ #[t] ty #[.slice (some ⟨g,0,none⟩) n c]).run P w=.ok (.tuple #[]) w')∧w'.heap[g]?=some (.cells (splice cur 0 (List.replicate n z)).toArray e (0,0))∧But g w w':=by
 have h2:=C6h g e (List.replicate n z) 0 cur w hg (by simpa using hl);refine⟨_,fun ty=>Lib.run_clear_slice w t e ty z ht hv hz h1 g 0 n c hn (fun j hj=>?_) (fun j hj=>by simp[World.frozen?,hg]),h2.1,h2.2⟩;rw[Zl,cell_of_row w g j cur.toArray e (0,0) hg];have:j<cur.length:=by omega
 simp[this]
theorem C6u:(Zm.info? 4).map (fun i=>(i.zero,i.size,i.bytes))=some (some (.bool false),1,1):=by kernel_rfl
theorem B8o:Zm.underlying 64=some (.slice 4):=by kernel_rfl
section
variable {w w1 wr:World} {B b:Nat} {M:A7} {S:C8} {X X':Pl} {C C':D9} {ten:Int}
theorem C3z (h0:G7 w B b C S X) (h:At w B b S X X' C' wr) {p:Addr} {v:Value} (hp:p.block<B) (hc:w.cell? p=some v):wr.cell? p=some v :=
 h.keep.cell (fun hk=>by
  rcases h0.ownC_lt hk with q|q
  ·omega
  ·have:=(h0.mem.own_size q).1;omega) hc
theorem B5s {X1 X2:Pl} {C1 C2:D9} {w2:World} (h:At w B b S X X1 C1 w1) (k:At w1 B b S X1 X2 C2 w2):At w B b S X X2 C2 w2 :=
 ⟨k.c.trans h.c,k.mb.trans h.mb,k.col,h.keep.then_ k.keep fun i hi hk=>(by
  rcases h.own i hk with q|q
  ·exact q
  ·omega),fun i hk=>(by
  rcases k.own i hk with q|q
  ·exact h.own i q
  ·exact Or.inr (Nat.le_trans h.keep.size q))⟩
theorem D7b {w0:World} {X0:Pl} (ha:At w0 B b S X0 X C w) {g:Nat} (hg:S.C.1=some ⟨g,0,none⟩) {cur:List Value} (hc:w.heap[g]?=some (.cells cur.toArray 4 (0,0))) {n:Nat} (hn:n=C.M.cards.length) (hb:But g w w1) (hw:w1.heap[g]?=some (.cells (splice cur 0 (List.replicate n (.bool false))).toArray 4 (0,0))) :
  At w0 B b S X0 X {C with M:={C.M with cards:=List.replicate n false}} w1:=by
 subst hn;have h:=ha.col;have hA:G1 b S g:=Or.inr (Or.inr (Or.inr (Or.inr (Or.inr hg))));have hk:A8 (G1 b S) w w1:=(A8.of_but hb).sub fun k hk=>by subst hk;exact hA
 have hr:=B4p h.mem.fC hg hc 0 (List.replicate C.M.cards.length (.bool false)) (by simp) hw;have e:splice (R7 C.M.cards) 0 (List.replicate C.M.cards.length (Value.bool false))=R7 (List.replicate C.M.cards.length false):=by
  unfold splice R7;have:(C.M.cards.map Value.bool).length=C.M.cards.length:=by simp
  simp
 rw[e] at hr;exact⟨ha.c,ha.mb,h.onMem (h.mem.rowC hg hb _ (by simp) hr) hk,ha.keep.then_ (hk.sub fun k q=>Or.inl q) fun i hi hk=>(by
  rcases ha.own i hk with q|q
  ·exact q
  ·omega),ha.own⟩
theorem D5j (h:G7 w B b C S X):At w B b S X X C w:=⟨rfl,rfl,h,A8.refl _ _,fun k hk=>Or.inl hk⟩
theorem B3e {C1:D9} {X1:Pl} (h:At w B b S X X1 C1 w1):At w1 B b S X1 X1 C1 w1:=D5j h.col
end
theorem I9.read {w:World} {B:Nat} {e:TypeId} {a:Option Addr} {n c:Nat} {xs:List Value} (h:I9 w B e (.slice a n c) xs):n=xs.length∧F7 w a xs:=by
 rcases h with⟨h1,rfl⟩|⟨g,off,cap,cur,h1,q1,q2,q3,q4,q5,q6⟩
 ·injection h1 with h1 h2 _;exact⟨h2,by rw[h1];exact F7.nil _ _⟩
 ·injection h1 with h1 h2 _;subst h1 h2;refine⟨rfl,fun j u hu=>⟨g,off,rfl,?_⟩⟩;rw[cell_of_row w g _ cur e (0,0) q2];rw[←q6,List.getElem?_take] at hu
  split at hu
  ·simpa using hu
  ·cases hu
theorem C2q {M:A7} (h:G2 M):P1 M=true:=by
 obtain⟨h1,h2,o1,o2,c1,c2,w,u1,u2,t1,t2,p1,p2,cl⟩:=h;simp only[P1,Za,P0,beq_iff_eq];exact⟨⟨⟨⟨⟨⟨⟨⟨h1,h2⟩,o1,o2⟩,c1,c2⟩,w⟩,u1,u2⟩,t1,t2⟩,p1,p2⟩,cl⟩
def B6u (st:List Int) (x:Int × Int):Prop:=C7 x.1=0∧x.1≠0∧F8 st (C9 x.1)=true∧1≤x.2
def A6g (y x:Int × Int):Prop:=y.1≠x.1∧y.2≠x.2
theorem A9k (st:List Int) (a:Int):F8 st a=true↔a∈st:=Zd
theorem E2x (st:List Int) (pre:List (Int × Int)) (x:Int × Int):A4s st pre x=true↔B6u st x∧∀ y∈pre,A6g y x:=by
 have e1:F8 (pre.map (·.1)) x.1=false↔∀ y∈pre,y.1≠x.1:=by
  rw[Bool.eq_false_iff,Ne,A9k];constructor
  ·intro h y hy e;exact h (Zg.2 ⟨y,hy,e⟩)
  ·intro h hm;obtain⟨y,hy,e⟩:=Zg.1 hm;exact h y hy e
 have e2:F8 (pre.map (·.2)) x.2=false↔∀ y∈pre,y.2≠x.2:=by
  rw[Bool.eq_false_iff,Ne,A9k];constructor
  ·intro h y hy e;exact h (Zg.2 ⟨y,hy,e⟩)
  ·intro h hm;obtain⟨y,hy,e⟩:=Zg.1 hm;exact h y hy e
 unfold A4s B6u A6g;simp only[Za,Bool.not_eq_true',Bool.or_eq_false_iff,bne_eq_false_iff_eq,beq_eq_false_iff_ne,decide_eq_false_iff_not,Bool.not_eq_false',e1,e2];constructor
 ·rintro⟨⟨⟨⟨⟨h1,h2⟩,h3⟩,h4⟩,h5⟩,h6⟩;refine⟨⟨h1,h2,?_,by omega⟩,fun y hy=>⟨h5 y hy,h6 y hy⟩⟩;unfold D0 at h3;rw[if_pos h1] at h3;simpa [h2] using h3
 ·rintro⟨⟨h1,h2,h3,h4⟩,h5⟩;refine⟨⟨⟨⟨⟨h1,h2⟩,?_⟩,by omega⟩,fun y hy=>(h5 y hy).1⟩,fun y hy=>(h5 y hy).2⟩;unfold D0;rw[if_pos h1,h3];simp
theorem A4t (st:List Int):∀ (pre l:List (Int × Int)),T0 st pre l=true↔(∀ x∈l,B6u st x∧∀ y∈pre,A6g y x)∧l.Pairwise A6g
 | pre,[]=>by simp[T0]
 | pre,x::l=>by
  rw[T0,Za,E2x,A4t st (pre++[x]) l,Zj];constructor
  ·rintro⟨h1,h2,h3⟩;refine⟨fun y hy=>?_,fun y hy=>?_,h3⟩
   ·rcases Zf.1 hy with rfl|hy
    ·exact h1
    ·exact⟨(h2 y hy).1,fun z hz=>(h2 y hy).2 z (by simp[hz])⟩
   ·exact (h2 y hy).2 x (by simp)
  ·rintro⟨h1,h2,h3⟩;refine⟨h1 x (by simp),fun y hy=>⟨(h1 y (by simp[hy])).1,fun z hz=>?_⟩,h3⟩;rcases Ze.1 hz with hz|hz
   ·exact (h1 y (by simp[hy])).2 z hz
   ·rw[List.mem_singleton.1 hz];exact h2 y hy
structure R6 (M0:A7) (ten:Int) (C:D9):Prop where
 inv:∃ D,I8 M0 ten C (fun _=>False) true D
 todo:C.todo=[]
 rootsL:C.M.roots.length=M0.roots.length
 roots:∀ j,j<M0.roots.length→Fol M0 C.mv (M0.roots.getD j 0) (C.M.roots.getD j 0)
def P9 (M0:A7) (C:D9):A7:={C.M with weak:=A0u C,ids:=A3s C,used:=1-M0.used,top:=C.top}
theorem C4j (M0:A7) (ten:Int):A5j M0 ten=P9 M0 (R9 M0 ten):=rfl
section
variable {M0:A7} {ten:Int} {C:D9}
theorem R6.pend (h:R6 M0 ten C) (i:Nat):¬A3o C (fun _=>False) i:=fun q=>by
 rcases q with q|⟨b,hb,_⟩
 ·exact q
 ·rw[h.todo] at hb;simp at hb
theorem R6.fld (h:R6 M0 ten C) {a b:Nat} (hi:K9 M0 C.mv a b) {k:Nat} (hk:k<A9 M0.W a) :
  (D2 (B3 (A6 M0.W a))=true→A6 C.M.W (b+1+k)=A6 M0.W (a+1+k))∧(D2 (B3 (A6 M0.W a))=false→Fol M0 C.mv (A6 M0.W (a+1+k)) (A6 C.M.W (b+1+k))):=by
 obtain⟨D,hv⟩:=h.inv;obtain⟨q1,q2⟩:=hv.fld a b hi k hk;exact⟨q1,fun hq=>(q2 hq).2 (h.pend _)⟩
theorem R6.shp (h:R6 M0 ten C) (hr:J8 M0 ten):G2 (P9 M0 C):=by
 obtain⟨D,hv⟩:=h.inv;have hs:=hv.shp hr;have ht:=hv.totle hr;have h0:=hv.top0;have h1:=hv.oldT;have s0:=hr.shp;have:=s0.u1;have:=s0.u2;have:=s0.t2;have:=s0.t1;exact⟨hs.h1,hs.h2,hs.o1,hs.o2,hs.c1,hs.c2,hs.w,by show 0≤1-M0.used;omega,by show 1-M0.used≤1;omega,h0,by show C.top≤C.M.half;rw[hv.like.half];omega,hs.p1,hs.p2,hs.cl⟩
theorem R6.base (h:R6 M0 ten C):(P9 M0 C).base=nbM M0:=by
 obtain⟨D,hv⟩:=h.inv;unfold A7.base P9 nbM;simp only;rw[hv.like.half]
theorem R6.parts (h:R6 M0 ten C) (hr:J8 M0 ten):partN (P9 M0 C)=((LNl M0 C.mv).map (D4 C.M.W),true)∧partO (P9 M0 C)=(((partO M0).1.map (·.a)++LOl M0 C.mv).map (D4 C.M.W),true):=by
 have hb:=h.base;obtain⟨D,hv⟩:=h.inv;constructor
 ·unfold partN;rw[hb];exact hv.layN.part
 ·unfold partO;show part C.M.W (2*C.M.half).toNat ((2*C.M.half).toNat+C.M.oldTop.toNat)=_;rw[hv.like.half];exact (hv.olds hr).part
theorem R6.mem (h:R6 M0 ten C) (hr:J8 M0 ten) (y:Ob):y∈D8 (P9 M0 C)↔(∃ a,K9 M0 C.mv a y.a)∧y=D4 C.M.W y.a:=by
 obtain⟨p1,p2⟩:=h.parts hr;obtain⟨D,hv⟩:=h.inv;unfold D8;rw[p1,p2,←List.map_append];constructor
 ·intro hm;obtain⟨b,hb,rfl⟩:=Zg.1 hm;refine⟨?_,rfl⟩;have key:∀ p∈C.mv,K9 M0 C.mv p.1.toNat p.2.toNat:=fun p hp=>Or.inr (by
   obtain⟨y,hy,e⟩:=hv.keys p hp;rw[Zb (by omega),Zb (hv.vals p hp)];exact hp)
  rcases Ze.1 hb with hb|hb
  ·obtain⟨p,hp,rfl⟩:=Zg.1 hb;exact⟨_,key p (List.mem_filter.1 hp).1⟩
  ·rcases Ze.1 hb with hb|hb
   ·exact⟨b,Or.inl ⟨rfl,hb⟩⟩
   ·obtain⟨p,hp,rfl⟩:=Zg.1 hb;exact⟨_,key p (List.mem_filter.1 hp).1⟩
 ·rintro⟨⟨a,hi⟩,e⟩;rw[e];refine List.mem_map_of_mem ?_;rcases hv.place hr hi with⟨q,_⟩|⟨q,_⟩
  ·exact Ze.2 (Or.inl q)
  ·exact Ze.2 (Or.inr q)
theorem R6.starts (h:R6 M0 ten C) (hr:J8 M0 ten) {a b:Nat} (hi:K9 M0 C.mv a b):F8 (C6 (P9 M0 C)) (b:Int)=true:=by
 rw[A9k];exact Zg.2 ⟨D4 C.M.W b,(h.mem hr _).2 ⟨⟨a,hi⟩,rfl⟩,rfl⟩
theorem R6.small (h:R6 M0 ten C) (hr:J8 M0 ten) {a b:Nat} (hi:K9 M0 C.mv a b):b≤1000000:=by
 obtain⟨D,hv⟩:=h.inv;have:=hv.inW hr hi;obtain⟨hh,e1,e2,e3,e4,e5,e6,e7,e8,e9,e10,e11,e12⟩:=hr.shp.nums;have:=hv.like.lenW;omega
theorem R6.cor (h:R6 M0 ten C) (hr:J8 M0 ten) {u v:Int} (hf:D0 (C6 M0) u=true) (hv:Fol M0 C.mv u v) :
  ((C7 u≠0∨u=0)∧v=u)∨∃ a b:Nat,C7 u=0∧u≠0∧C9 u=(a:Int)∧K9 M0 C.mv a b∧C7 v=0∧v≠0∧C9 v=(b:Int)∧(∃ x∈D8 M0,x.a=a)∧v=(if J5 M0 u then D3 (b:Int) else u):=by
 by_cases hk:C7 u=0
 ·by_cases hu:u=0
  ·left;refine⟨Or.inr hu,?_⟩;rcases hv with⟨_,e⟩|⟨hs,_⟩
   ·exact e
   ·exfalso;subst hu;simp[stays,J5] at hs
  ·right;have hin:C9 u∈C6 M0:=by
    unfold D0 at hf;rw[if_pos hk] at hf;simp only[Bool.or_eq_true,beq_iff_eq] at hf;rcases hf with q|q
    ·exact absurd q hu
    ·exact Zd.1 q
   obtain⟨x,hx,hxe⟩:=Zg.1 hin;rcases hv with⟨hs,e⟩|⟨hs,to,hl,e⟩
   ·have ho:2*M0.half≤C9 u:=by
     unfold stays J5 L4 at hs;have k1:(C7 u==0)=true:=by simpa using hk
     have k2:(u != 0)=true:=by simpa using hu
     rw[k1,k2] at hs;simpa using hs
    have hxO:x∈(partO M0).1:=by
     unfold D8 at hx;rcases Ze.1 hx with q|q
     ·have:=hr.inN q;obtain⟨hh,e1,e2,e3,e4,e5,e6,e7,e8,e9,e10,e11,e12⟩:=hr.shp.nums;rcases e3 with⟨u1,u2,u3⟩|⟨u1,u2,u3⟩<;>omega
     ·exact q
    subst e;refine⟨x.a,x.a,hk,hu,hxe.symm,Or.inl ⟨rfl,List.mem_map_of_mem (f:=(·.a)) hxO⟩,hk,hu,hxe.symm,⟨x,hx,rfl⟩,?_⟩;have:J5 M0 v=false:=by unfold stays at hs;simpa using hs
    rw[this];rfl
   ·obtain⟨D,hv⟩:=h.inv;have hm:=B7i hl;obtain⟨y,hy,ey⟩:=hv.keys _ hm;have h0:=hv.vals _ hm;simp only at h0 ey;have hi:K9 M0 C.mv x.a to.toNat:=Or.inr (by rw[Zb h0,hxe];exact hm);have hs':=h.small hr hi;have hp:=B2g to ⟨h0,by omega⟩;have hw:=A5v to;refine⟨x.a,to.toNat,hk,hu,hxe.symm,hi,by rw[e];exact hw.2.2,?_,by rw[e,hp];omega,⟨x,hx,rfl⟩,?_⟩
    ·rw[e];unfold D3;omega
    ·have:J5 M0 u=true:=by unfold stays at hs;simpa using hs
     rw[this,Zb h0];exact e
 ·left;refine⟨Or.inl hk,?_⟩;rcases hv with⟨_,e⟩|⟨hs,_⟩
  ·exact e
  ·exfalso;have k1:(C7 u==0)=false:=by simpa using hk
   simp[stays,J5,k1] at hs
theorem R6.fldB_ (h:R6 M0 ten C) (hr:J8 M0 ten) {u v:Int} (hf:D0 (C6 M0) u=true) (hv:Fol M0 C.mv u v):D0 (C6 (P9 M0 C)) v=true:=by
 rcases h.cor hr hf hv with⟨q,e⟩|⟨a,b,q1,q2,q3,q4,q5,q6,q7,q8⟩
 ·subst e;unfold D0 at hf ⊢;rcases q with q|q
  ·rw[if_neg q] at hf ⊢;exact hf
  ·subst q;simp[C7]
 ·unfold D0;rw[if_pos q5,q7,h.starts hr q4];simp
theorem C1d {M0:A7} {C:D9} (hl:A3n M0 C.M) {u:Int} (h:(O0 C u).2=true):Fol M0 C.mv u (O0 C u).1:=by
 unfold O0 at h ⊢;rw[hl.stays]at h ⊢
 cases hs:stays M0 u with
 | true=>exact Or.inl ⟨hs,by simp⟩
 | false =>
  rw[hs] at h
  cases hm:K0 C.mv (C9 u) with
  | none=>rw[hm] at h;simp at h
  | some to=>exact Or.inr ⟨hs,to,hm,by simp⟩
theorem R6.ok (h:R6 M0 ten C) (hr:J8 M0 ten):(P9 M0 C).Ok:=by
 have hs:=h.shp hr;obtain⟨D,hv⟩:=h.inv;have ho:=hv.ok;have hw:=hv.like.weak;have hi:=hv.like.ids;have lastw:∀ u:Int,0≤u∧u≤18446744073709551615→0≤(O0 C u).1∧(O0 C u).1≤18446744073709551615:=fun u hu=>by
  unfold O0
  split
  ·exact hu
  ·split<;>exact B3b _
 have h1:=hs.h1;have h2:=hs.h2;have h3:=hs.t1;have h4:=hs.t2;have h5:=hs.u1;have h6:=hs.u2;refine⟨ho.half,ho.old,ho.card,by omega,by omega,ho.oldTop,ho.W,ho.roots,fun x hx=>?_,fun x hx=>?_,ho.lenW,ho.lenR,?_,?_,ho.lenC⟩
 ·obtain⟨u,hu,rfl⟩:=Zg.1 hx
  split
  ·exact lastw u (ho.weak u hu)
  ·omega
 ·obtain⟨u,hu,e⟩:=List.mem_filterMap.1 hx
  split at e
  ·injection e with e;subst e;exact⟨lastw _ (ho.ids u hu).1,(ho.ids u hu).2⟩
  ·cases e
 ·show (A0u C).length≤_;unfold A0u;rw[List.length_map];exact ho.lenK
 ·show (A3s C).length≤_;unfold A3s;exact Nat.le_trans (List.length_filterMap_le _ _) ho.lenI
theorem R6.chk (h:R6 M0 ten C) (hr:J8 M0 ten):chk (P9 M0 C)=0:=by
 have hg:=K5 (L8 hr.chk).1;have hsh:=h.shp hr;obtain⟨p1,p2⟩:=h.parts hr;obtain⟨D,hv⟩:=h.inv;have hob:M9 (P9 M0 C) (L3 (P9 M0 C))=true:=by
  have hall:(D8 (P9 M0 C)).all (L3 (P9 M0 C))=true:=by
   rw[Zc];intro y hy;obtain⟨⟨a,hi⟩,e⟩:=(h.mem hr y).1 hy;obtain⟨d1,d2,d3,d4,d5⟩:=hv.hd hr hi;have ew:y.w=A6 C.M.W y.a:=by rw[e];rfl
   unfold L3;rw[ew,d5];simp only[beq_self_eq_true,Bool.true_and,Bool.or_eq_true,beq_iff_eq,Bool.not_eq_true'];by_cases ho:2*M0.half≤(y.a:Int)
   ·left;rcases hi with⟨rfl,hm⟩|hm
    ·obtain⟨x,hx,ex⟩:=Zg.1 hm;rw[←ex,hv.hdO x hx];exact (hr.inO hx).2.2.2.2.2
    ·have e1:=hv.head _ hm;have e2:=(hv.side _ hm).1 ho;simp only[Int.toNat_natCast] at e1 e2;obtain⟨x,hx,ex⟩:=hv.keyN hm;rw[e1,(B4l (ten:=ten) (O6 hr.ok a).1 d1).2.2.1,if_pos e2]
   ·right;unfold L4;exact decide_eq_false (by show ¬2*C.M.half≤_;rw[hv.like.half];exact ho)
  unfold D8 at hall;rw[List.all_append,Za] at hall;unfold M9;rw[hall.1,hall.2,p1,p2];rfl
 have hro:J6 (C6 (P9 M0 C)) (P9 M0 C).roots=true:=by
  unfold J6;rw[Zc];intro v hvm;obtain⟨j,hj,e⟩:=List.getElem_of_mem (show v∈C.M.roots from hvm);have hj':j<C.M.roots.length:=hj;rw[h.rootsL] at hj';have hf:=h.roots j hj';have e2:C.M.roots.getD j 0=v:=by rw[List.getD_eq_getElem?_getD,List.getElem?_eq_getElem hj];exact e
  rw[e2] at hf;refine h.fldB_ hr ?_ hf;have:=hg.2.2.1;unfold J6 at this;rw[Zc] at this;exact Y1 this hj'
 have hwk:J6 (C6 (P9 M0 C)) (P9 M0 C).weak=true:=by
  unfold J6;rw[Zc];intro v hvm;obtain⟨u,hu,rfl⟩:=Zg.1 (show v∈A0u C from hvm);have hu':D0 (C6 M0) u=true:=by
   have:=hg.2.2.2.1;unfold J6 at this;rw[Zc] at this;exact this u (by rw[←hv.like.weak];exact hu)
  split
  ·rename_i hl;exact h.fldB_ hr hu' (C1d hv.like hl)
  ·simp[D0,C7]
 have hfl:(D8 (P9 M0 C)).all (R2 (P9 M0 C) (C6 (P9 M0 C)))=true:=by
  rw[Zc];intro y hy;obtain⟨⟨a,hi⟩,e⟩:=(h.mem hr y).1 hy;obtain⟨d1,d2,d3,d4,d5⟩:=hv.hd hr hi;have ew:y.w=A6 C.M.W y.a:=by rw[e];rfl
  unfold R2
  cases hq:D2 (B3 y.w) with
  | true=>rfl
  | false =>
   rw[Bool.false_or];unfold J6 flds;rw[Zc];intro v hvm;obtain⟨k,hk,rfl⟩:=Zg.1 hvm;rw[ew,d3] at hq;have hk':k<A9 M0.W a:=by
    have:=List.mem_range.1 hk;rw[←d4];unfold Ob.n at this;rw[ew] at this;exact this
   exact h.fldB_ hr (hv.fldB_ hr hi hq hk') ((h.fld hi hk').2 hq)
 have hid:T0 (C6 (P9 M0 C)) [] (P9 M0 C).ids=true:=by
  have h0:=(A4t _ _ _).1 hg.2.2.2.2.2;have hcor:∀ x∈M0.ids,(O0 C x.1).2=true→∃ a b:Nat,C9 x.1=(a:Int)∧K9 M0 C.mv a b∧C7 (O0 C x.1).1=0∧(O0 C x.1).1≠0∧C9 (O0 C x.1).1=(b:Int)∧C7 x.1=0:=fun x hx hl=>by
   obtain⟨g1,g2,g3,g4⟩:=(h0.1 x hx).1;have hf:D0 (C6 M0) x.1=true:=by unfold D0;rw[if_pos g1,g3];simp
   rcases h.cor hr hf (C1d hv.like hl) with⟨q,_⟩|⟨a,b,q1,q2,q3,q4,q5,q6,q7,q8⟩
   ·rcases q with q|q
    ·exact absurd g1 q
    ·exact absurd q g2
   ·exact⟨a,b,q3,q4,q5,q6,q7,q1⟩
  rw[A4t];show (∀ x∈A3s C,_)∧(A3s C).Pairwise A6g;unfold A3s;rw[hv.like.ids];constructor
  ·intro y hy;obtain⟨x,hx,e⟩:=List.mem_filterMap.1 hy
   split at e
   ·rename_i hl;injection e with e;subst e;obtain⟨a,b,q1,q2,q3,q4,q5,_⟩:=hcor x hx hl;exact⟨⟨q3,q4,by rw[q5];exact h.starts hr q2,(h0.1 x hx).1.2.2.2⟩,fun z hz=>by simp at hz⟩
   ·cases e
  ·refine List.Pairwise.filterMap _ (S:=A6g) (fun p q hpq b hb b' hb'=>?_) (List.Pairwise.imp_of_mem (S:=fun p q=>p∈M0.ids∧q∈M0.ids∧A6g p q) (fun hp hq' hpq=>⟨hp,hq',hpq⟩) h0.2);obtain⟨hp,hq,hap⟩:=hpq
   split at hb
   ·rename_i hl
    split at hb'
    ·rename_i hl';injection hb with hb;injection hb' with hb';subst hb hb';obtain⟨a,c,q1,q2,q3,q4,q5,q6⟩:=hcor p hp hl;obtain⟨a',c',r1,r2,r3,r4,r5,r6⟩:=hcor q hq hl';refine⟨fun e=>?_,hap.2⟩;simp only at e;rw[e,r5] at q5;have ec:c'=c:=by omega
     subst ec;have ea:=hv.inj hr q2 r2;subst ea;apply hap.1;unfold C9 at q1 r1;unfold C7 at q6 r6;omega
    ·cases hb'
   ·cases hb
 have hcd:A0p (P9 M0 C)=true:=by
  unfold A0p;rw[Zc];intro y hy;obtain⟨⟨a,hi⟩,e⟩:=(h.mem hr y).1 hy;obtain⟨d1,d2,d3,d4,d5⟩:=hv.hd hr hi;have ew:y.w=A6 C.M.W y.a:=by rw[e];rfl
  unfold A1r
  cases hq:D2 (B3 y.w) with
  | true=>rfl
  | false =>
   rw[Bool.false_or];unfold A2v;rw[Zc];intro k hk;rw[ew,d3] at hq;have hk':k<A9 M0.W a:=by
    have:=List.mem_range.1 hk;rw[←d4];unfold Ob.n at this;rw[ew] at this;exact this
   unfold crd
   cases ho:L4 (P9 M0 C) (y.a:Int) with
   | false=>rfl
   | true =>
    cases hyo:J5 (P9 M0 C) (A6 (P9 M0 C).W (y.a+1+k)) with
    | false=>rfl
    | true =>
     have hb:D1 M0≤y.a:=by
      unfold L4 at ho;have:=of_decide_eq_true ho;have e1:(P9 M0 C).half=M0.half:=hv.like.half;rw[e1] at this;unfold D1;omega
     have hyo':J5 M0 (A6 C.M.W (y.a+1+k))=true:=by
      have e1:J5 (P9 M0 C) (A6 (P9 M0 C).W (y.a+1+k))=J5 C.M (A6 C.M.W (y.a+1+k)):=rfl;rw[e1,hv.like.young] at hyo;exact hyo
     have:=(hv.crd a y.a hi k hk' hq hb (h.pend _) hyo').2;have e2:A0e (P9 M0 C) ((y.a:Int)+1+k)=true:=by
      rw[show (y.a:Int)+1+k=((y.a+1+k:Nat):Int) by omega];exact this
     rw[e2];rfl
 have hgood:goodB (P9 M0 C)=true:=by
  unfold goodB;rw[C2q hsh,hob,hro,hwk,hfl,hid];rfl
 unfold Go.Proofs.YtelhoppfidibiaaGreatDoor.chk;rw[hgood,hcd];rfl
end
theorem B5z {M0:A7} {ten:Int} (hr:J8 M0 ten):R6 M0 ten (R9 M0 ten):=by
 obtain⟨_,_,_,_,_,_,D,h1,h2,h3,h4⟩:=C4k hr;exact⟨⟨D,h1⟩,h2,h3,h4⟩
theorem D1f (W:World) (t:TypeId) (y1 y2:Int):F7 (W.alloc (.cells #[.int .u64 y1,.int .i64 y2] t)).drew (some ⟨W.heap.size,0,none⟩) (G0 [(y1,y2)]):=by
 have h:F7 (W.alloc (.cells #[.int .u64 y1,.int .i64 y2] t)) (some ⟨W.heap.size,0,none⟩) (G0 [(y1,y2)]):=fun j u hu=>⟨_,0,rfl,by
  rw[Zl,cell_of_row _ W.heap.size j _ t (0,0) (heap_alloc_new W _)];simpa [G0] using hu⟩
 exact h.ext (A0.refl _).drew_
theorem C0w:(Zm.info? 78).map (fun i=>(i.zero,i.size,i.bytes))=some (some (.int .u64 0),1,8):=by kernel_rfl
theorem B2r:Zm.underlying 76=some (.slice 78):=by kernel_rfl
theorem E3p:(Zm.info? 78).map (fun i=>(i.zero,i.size,i.bytes))=some (some (.int .u64 0),1,8):=by kernel_rfl
theorem F8f:Zm.underlying 76=some (.slice 78):=by kernel_rfl
theorem E3q:(Zm.info? 78).map (fun i=>(i.zero,i.size,i.bytes))=some (some (.int .u64 0),1,8):=by kernel_rfl
theorem F8g:Zm.underlying 76=some (.slice 78):=by kernel_rfl
theorem C6v:(Zm.info? 138).map (fun i=>(i.zero,i.size,i.bytes))=some (some (.agg #[.int .u64 0,.int .i64 0]),2,16):=by kernel_rfl
theorem C3f:Zm.underlying 132=some (.slice 138):=by kernel_rfl
theorem C6w:(Zm.info? 4).map (fun i=>(i.zero,i.size,i.bytes))=some (some (.bool false),1,1):=by kernel_rfl
theorem B8n:Zm.underlying 64=some (.slice 4):=by kernel_rfl
def D3z (w:World) (M:A7) (e:Ending) (w':World):Prop :=
 ∃ b S,e=.returned (.pointer (some ⟨b,0,none⟩))∧B7 w' w.heap.size b 138 M S∧A0 w w'
theorem E9m (b o:Nat) (M:A7) (S:C8) (w:World) (hM:G8 w b o M S) (hF:Few M) :
  Calls Zm 82 #[.pointer (some ⟨b,o,none⟩)] w (D3z w M):=by
 obtain⟨i0,hi0,h0a,h0b,h0c⟩:=info_parts C0w;obtain⟨i1,hi1,h1a,h1b,h1c⟩:=info_parts E3p;obtain⟨i2,hi2,h2a,h2b,h2c⟩:=info_parts E3q;obtain⟨i3,hi3,h3a,h3b,h3c⟩:=info_parts C6v;obtain⟨i4,hi4,h4a,h4b,h4c⟩:=info_parts C6w;have HM:=Hz hM;have HF:=Hz hF;have hltb:=hM.lt;have n0:=hM.half;have n1:=hM.old;have n2:=hM.card;have n4:=hM.used;have n5:=hM.top;have n6:=hM.oldTop;clear hM hF
 go_enter Tryz.func82,Tryz.ntmps82
 go_wp2;refine wp_region_held_drew (S:=fun W=>W.cell? ⟨b,o,none⟩=some (.int .i64 M.half)∧W.cell? ⟨b,o+1,none⟩=some (.int .i64 M.old)∧W.cell? ⟨b,o+2,none⟩=some (.int .i64 M.card)∧W.cell? ⟨b,o+4,none⟩=some (.int .i64 M.used)∧W.cell? ⟨b,o+5,none⟩=some (.int .i64 M.top)∧W.cell? ⟨b,o+6,none⟩=some (.int .i64 M.oldTop)) (by kernel_rfl) ?_ (fun hH=>?_)
 ·exact⟨n0,n1,n2,n4,n5,n6⟩
 refine tJ 0 4 rfl ?_
 try simp only[A5]
 refine tJ 1 5 rfl ?_
 try simp only[A5]
 refine tJ 2 6 rfl ?_
 try simp only[A5]
 refine tJ 3 7 rfl ?_
 try simp only[A5]
 refine tJ 4 8 rfl ?_
 try simp only[A5]
 refine tJ 5 9 rfl ?_
 try simp only[A5]
 refine tJ 6 10 rfl ?_
 try simp only[A5]
 refine tJ 7 11 rfl ?_
 try simp only[A5]
 refine tJ 8 12 rfl ?_
 try simp only[A5]
 refine tJ 9 13 rfl ?_
 try simp only[A5]
 refine tJ 10 14 rfl ?_
 try simp only[A5]
 refine tJ 11 15 rfl ?_
 try simp only[A5]
 refine tJ 12 16 rfl ?_
 try simp only[A5]
 refine tJ 13 17 rfl ?_
 try simp only[A5]
 refine tJ 14 18 rfl ?_
 try simp only[A5]
 refine tJ 15 19 rfl ?_
 try simp only[A5]
 refine tJ 16 20 rfl ?_
 try simp only[A5]
 refine tJ 17 21 rfl ?_
 try simp only[A5]
 refine tJ 18 22 rfl ?_
 try simp only[A5]
 refine tJ 19 23 rfl ?_
 try simp only[A5]
 refine tJ 20 24 rfl ?_
 try simp only[A5]
 refine tJ 21 25 rfl ?_
 try simp only[A5]
 refine tJ 22 26 rfl ?_
 try simp only[A5]
 refine tJ 23 27 rfl ?_
 try simp only[A5]
 refine tJ 24 28 rfl ?_
 try simp only[A5]
 refine wpAnyH_ready (rs:=[25]) (by kernel_rfl) (by simp) ?_;refine AllReadyH.cons (o:=⟨some 29,_,_,_,_,_⟩) rfl (fun K hK=>?_) AllReadyH.nil;go_simp;skip;refine hK.out _ _ ?_ (fun hH=>?_)
 ·(try dsimp only);exact⟨A0.cell_ (w:=w) eX n0,A0.cell_ (w:=w) eX n1,A0.cell_ (w:=w) eX n2,A0.cell_ (w:=w) eX n4,A0.cell_ (w:=w) eX n5,A0.cell_ (w:=w) eX n6⟩
 clear hK K
 try simp only[A5]
 refine tJ 26 3 rfl ?_
 try simp only[A5]
 refine wpAnyH_done (by kernel_rfl) ?_ _;clear n0 n1 n2 n4 n5 n6 hH;go_wp2;refine P4 (fun W0 hW0=>?_);have hO0:OM W0 w.heap.size w.heap.size (L5 M) [⟨3,78,1,none,0,0,[]⟩,⟨7,78,1,none,0,0,[]⟩,⟨8,78,1,none,0,0,[]⟩,⟨9,138,2,none,0,0,[]⟩,⟨10,4,1,none,0,0,[]⟩]:=by rw[hW0];exact (E9d w M _ _).ext (A0.refl _).drew_
 have hE0:A0 w W0:=by rw[hW0];exact ((A0.refl w).alloc_ _).drew_
 have x1:W0.cell? ⟨w.heap.size,3,none⟩=some (.slice none 0 0):=(hO0.fld ⟨3,78,1,none,0,0,[]⟩ (by simp)).1;have s0:W0.cell? ⟨b,o+3,none⟩=some (.slice S.W.1 M.W.length S.W.2):=(HM.out.ext hE0).W;have HO0:=Hz hO0;have HE0:=Hz hE0;have hbe:b≠w.heap.size:=by omega
 clear hW0 hO0 hE0;refine wp_region_held_drew (S:=fun W=>W.cell? ⟨b,o+3,none⟩=some (.slice S.W.1 M.W.length S.W.2)) (by kernel_rfl) ?_ (fun hH=>?_)
 ·exact s0
 refine tJ 0 30 rfl ?_
 try simp only[A5]
 refine tJ 1 31 rfl ?_
 try simp only[A5]
 refine tJ 2 32 rfl ?_
 try simp only[A5]
 refine tJ 3 33 rfl ?_
 try simp only[A5]
 refine tJ 5 35 rfl ?_
 try simp only[A5]
 refine tJ 6 36 rfl ?_
 try simp only[A5]
 refine tJ 7 37 rfl ?_
 try simp only[A5]
 refine tJ 8 38 rfl ?_
 try simp only[A5]
 refine wpAnyH_ready (rs:=[4]) (by kernel_rfl) (by simp) ?_;refine AllReadyH.cons (o:=⟨some 34,_,_,_,_,_⟩) rfl (fun K hK=>?_) AllReadyH.nil;go_simp;skip;refine hK.out _ _ ?_ (fun hH=>?_)
 ·(try dsimp only);exact hH
 clear hK K
 try simp only[A5]
 refine wpAnyH_ready (rs:=[9]) (by kernel_rfl) (by simp) ?_;refine AllReadyH.cons (o:=⟨some 39,_,_,_,_,_⟩) rfl (fun K hK=>?_) AllReadyH.nil;refine A5b (by rfl) _ _ 76 (by rfl) w.heap.size 78 i0 (.int .u64 0) 1 8 B2r hi0 h0a h0b h0c (by rfl) (by decide) (.slice none 0 0) 0 [] (by rfl) (Zp _ _ _ _) S.W.1 M.W.length S.W.2 (C5 M.W) (by rfl) HM.out.nilW HM.out.capW (A7l _) (((HM.out.ext HE0.out).ext (A0.refl W0).drew_).rW) (A6r _) (by have:=HF.out.W;unfold maxLen;omega) (by have:=HF.out.W;omega) (by have:=HE0.out.size;simp;omega) ?_;intro a0 c0 v0 hown hgrow hat
 simp only[Zl,Zh] at hown hat ⊢;have hx:A0 W0 v0:=A0.trans_ (A0.refl W0).drew_ (Below.grown (Below.refl _ _) hgrow (Zk _) (fun k hk=>by cases hk));have y1:v0.cell? ⟨w.heap.size,3,none⟩=some (.slice none 0 0):=hx.cell_ x1;have y2:v0.frozen? ⟨w.heap.size,3,none⟩=false:=(HO0.out.ext hx).frozen 3;have y3:=hx.cell_ s0;have OW:=Hz hown;have HG:Hid (Zo W0 v0 none):=⟨hgrow.os,hgrow.tape,hgrow.output,hgrow.size,fun k hk e=>hgrow.block k hk e⟩;have HAT:=Hz hat
 have HX:=Hz hx;clear hown hgrow hat hx;refine hK.out _ _ ?_ (fun hH=>?_)
 ·(try dsimp only);exact y3
 clear hK K
 try simp only[A5]
 refine tJ 10 40 rfl ?_
 try simp only[A5]
 refine tJ 11 41 rfl ?_
 try simp only[A5]
 refine wpAnyH_ready (rs:=[12]) (by kernel_rfl) (by simp) ?_;refine AllReadyH.cons (o:=⟨none,_,_,_,_,_⟩) rfl (fun K hK=>?_) AllReadyH.nil;go_simp;skip;refine hK.out _ _ ?_ (fun hH=>?_)
 ·(try dsimp only);exact (by rw[Zn _ _ _ _ (by simp;omega)];exact y3)
 clear hK K
 try simp only[A5]
 refine wpAnyH_done (by kernel_rfl) ?_ _;have N0:Hid (OM (v0.setCell ⟨w.heap.size,3,none⟩ (.slice a0 M.W.length c0)) w.heap.size w.heap.size (L5 M) [⟨3,78,1,a0,M.W.length,c0,C5 M.W⟩,⟨7,78,1,none,0,0,[]⟩,⟨8,78,1,none,0,0,[]⟩,⟨9,138,2,none,0,0,[]⟩,⟨10,4,1,none,0,0,[]⟩]) :=
  OM.fill (L1:=[]) (L2:=[⟨7,78,1,none,0,0,[]⟩,⟨8,78,1,none,0,0,[]⟩,⟨9,138,2,none,0,0,[]⟩,⟨10,4,1,none,0,0,[]⟩]) (f:=⟨3,78,1,none,0,0,[]⟩) HO0.out rfl a0 M.W.length c0 (C5 M.W) HG.out OW.out HAT.out
 have M0:Hid (A0 w (v0.setCell ⟨w.heap.size,3,none⟩ (.slice a0 M.W.length c0))):=A0.set_ (A0.trans_ HE0.out HX.out) (by simp) _;clear OW HG HAT HX y1 y2 y3 x1 hH HO0;go_wp2;refine P4 (fun W1 hW1=>?_);have hO1:OM W1 w.heap.size w.heap.size (L5 M) [⟨3,78,1,a0,M.W.length,c0,C5 M.W⟩,⟨7,78,1,none,0,0,[]⟩,⟨8,78,1,none,0,0,[]⟩,⟨9,138,2,none,0,0,[]⟩,⟨10,4,1,none,0,0,[]⟩]:=by rw[hW1];exact N0.out
 have hE1:A0 w W1:=by rw[hW1];exact M0.out
 have x1:W1.cell? ⟨w.heap.size,7,none⟩=some (.slice none 0 0):=(hO1.fld ⟨7,78,1,none,0,0,[]⟩ (by simp)).1;have s1:W1.cell? ⟨b,o+7,none⟩=some (.slice S.R.1 M.roots.length S.R.2):=(HM.out.ext hE1).roots;have HO1:=Hz hO1;have HE1:=Hz hE1;have hbe:b≠w.heap.size:=by omega
 clear hW1 hO1 hE1;refine wp_region_held_drew (S:=fun W=>W.cell? ⟨b,o+7,none⟩=some (.slice S.R.1 M.roots.length S.R.2)) (by kernel_rfl) ?_ (fun hH=>?_)
 ·exact s1
 refine tJ 0 42 rfl ?_
 try simp only[A5]
 refine tJ 1 43 rfl ?_
 try simp only[A5]
 refine tJ 2 44 rfl ?_
 try simp only[A5]
 refine tJ 3 45 rfl ?_
 try simp only[A5]
 refine tJ 5 47 rfl ?_
 try simp only[A5]
 refine tJ 6 48 rfl ?_
 try simp only[A5]
 refine tJ 7 49 rfl ?_
 try simp only[A5]
 refine tJ 8 50 rfl ?_
 try simp only[A5]
 refine wpAnyH_ready (rs:=[4]) (by kernel_rfl) (by simp) ?_;refine AllReadyH.cons (o:=⟨some 46,_,_,_,_,_⟩) rfl (fun K hK=>?_) AllReadyH.nil;go_simp;skip;refine hK.out _ _ ?_ (fun hH=>?_)
 ·(try dsimp only);exact hH
 clear hK K
 try simp only[A5]
 refine wpAnyH_ready (rs:=[9]) (by kernel_rfl) (by simp) ?_;refine AllReadyH.cons (o:=⟨some 51,_,_,_,_,_⟩) rfl (fun K hK=>?_) AllReadyH.nil;refine A5b (by rfl) _ _ 76 (by rfl) w.heap.size 78 i1 (.int .u64 0) 1 8 F8f hi1 h1a h1b h1c (by rfl) (by decide) (.slice none 0 0) 0 [] (by rfl) (Zp _ _ _ _) S.R.1 M.roots.length S.R.2 (C5 M.roots) (by rfl) HM.out.nilR HM.out.capR (A7l _) (((HM.out.ext HE1.out).ext (A0.refl W1).drew_).rR) (A6r _) (by have:=HF.out.R;unfold maxLen;omega) (by have:=HF.out.R;omega) (by have:=HE1.out.size;simp;omega) ?_;intro a1 c1 v1 hown hgrow hat
 simp only[Zl,Zh] at hown hat ⊢;have hx:A0 W1 v1:=A0.trans_ (A0.refl W1).drew_ (Below.grown (Below.refl _ _) hgrow (Zk _) (fun k hk=>by cases hk));have y1:v1.cell? ⟨w.heap.size,7,none⟩=some (.slice none 0 0):=hx.cell_ x1;have y2:v1.frozen? ⟨w.heap.size,7,none⟩=false:=(HO1.out.ext hx).frozen 7;have y3:=hx.cell_ s1;have OW:=Hz hown;have HG:Hid (Zo W1 v1 none):=⟨hgrow.os,hgrow.tape,hgrow.output,hgrow.size,fun k hk e=>hgrow.block k hk e⟩;have HAT:=Hz hat
 have HX:=Hz hx;clear hown hgrow hat hx;refine hK.out _ _ ?_ (fun hH=>?_)
 ·(try dsimp only);exact y3
 clear hK K
 try simp only[A5]
 refine tJ 10 52 rfl ?_
 try simp only[A5]
 refine tJ 11 53 rfl ?_
 try simp only[A5]
 refine wpAnyH_ready (rs:=[12]) (by kernel_rfl) (by simp) ?_;refine AllReadyH.cons (o:=⟨none,_,_,_,_,_⟩) rfl (fun K hK=>?_) AllReadyH.nil;go_simp;skip;refine hK.out _ _ ?_ (fun hH=>?_)
 ·(try dsimp only);exact (by rw[Zn _ _ _ _ (by simp;omega)];exact y3)
 clear hK K
 try simp only[A5]
 refine wpAnyH_done (by kernel_rfl) ?_ _;have N1:Hid (OM (v1.setCell ⟨w.heap.size,7,none⟩ (.slice a1 M.roots.length c1)) w.heap.size w.heap.size (L5 M) [⟨3,78,1,a0,M.W.length,c0,C5 M.W⟩,⟨7,78,1,a1,M.roots.length,c1,C5 M.roots⟩,⟨8,78,1,none,0,0,[]⟩,⟨9,138,2,none,0,0,[]⟩,⟨10,4,1,none,0,0,[]⟩]) :=
  OM.fill (L1:=[⟨3,78,1,a0,M.W.length,c0,C5 M.W⟩]) (L2:=[⟨8,78,1,none,0,0,[]⟩,⟨9,138,2,none,0,0,[]⟩,⟨10,4,1,none,0,0,[]⟩]) (f:=⟨7,78,1,none,0,0,[]⟩) HO1.out rfl a1 M.roots.length c1 (C5 M.roots) HG.out OW.out HAT.out
 have M1:Hid (A0 w (v1.setCell ⟨w.heap.size,7,none⟩ (.slice a1 M.roots.length c1))):=A0.set_ (A0.trans_ HE1.out HX.out) (by simp) _;clear OW HG HAT HX y1 y2 y3 x1 hH HO1;go_wp2;refine P4 (fun W2 hW2=>?_);have hO2:OM W2 w.heap.size w.heap.size (L5 M) [⟨3,78,1,a0,M.W.length,c0,C5 M.W⟩,⟨7,78,1,a1,M.roots.length,c1,C5 M.roots⟩,⟨8,78,1,none,0,0,[]⟩,⟨9,138,2,none,0,0,[]⟩,⟨10,4,1,none,0,0,[]⟩]:=by rw[hW2];exact N1.out
 have hE2:A0 w W2:=by rw[hW2];exact M1.out
 have x1:W2.cell? ⟨w.heap.size,8,none⟩=some (.slice none 0 0):=(hO2.fld ⟨8,78,1,none,0,0,[]⟩ (by simp)).1;have s2:W2.cell? ⟨b,o+8,none⟩=some (.slice S.K.1 M.weak.length S.K.2):=(HM.out.ext hE2).weak;have HO2:=Hz hO2;have HE2:=Hz hE2;have hbe:b≠w.heap.size:=by omega
 clear hW2 hO2 hE2;refine wp_region_held_drew (S:=fun W=>W.cell? ⟨b,o+8,none⟩=some (.slice S.K.1 M.weak.length S.K.2)) (by kernel_rfl) ?_ (fun hH=>?_)
 ·exact s2
 refine tJ 0 54 rfl ?_
 try simp only[A5]
 refine tJ 1 55 rfl ?_
 try simp only[A5]
 refine tJ 2 56 rfl ?_
 try simp only[A5]
 refine tJ 3 57 rfl ?_
 try simp only[A5]
 refine tJ 5 59 rfl ?_
 try simp only[A5]
 refine tJ 6 60 rfl ?_
 try simp only[A5]
 refine tJ 7 61 rfl ?_
 try simp only[A5]
 refine tJ 8 62 rfl ?_
 try simp only[A5]
 refine wpAnyH_ready (rs:=[4]) (by kernel_rfl) (by simp) ?_;refine AllReadyH.cons (o:=⟨some 58,_,_,_,_,_⟩) rfl (fun K hK=>?_) AllReadyH.nil;go_simp;skip;refine hK.out _ _ ?_ (fun hH=>?_)
 ·(try dsimp only);exact hH
 clear hK K
 try simp only[A5]
 refine wpAnyH_ready (rs:=[9]) (by kernel_rfl) (by simp) ?_;refine AllReadyH.cons (o:=⟨some 63,_,_,_,_,_⟩) rfl (fun K hK=>?_) AllReadyH.nil;refine A5b (by rfl) _ _ 76 (by rfl) w.heap.size 78 i2 (.int .u64 0) 1 8 F8g hi2 h2a h2b h2c (by rfl) (by decide) (.slice none 0 0) 0 [] (by rfl) (Zp _ _ _ _) S.K.1 M.weak.length S.K.2 (C5 M.weak) (by rfl) HM.out.nilK HM.out.capK (A7l _) (((HM.out.ext HE2.out).ext (A0.refl W2).drew_).rK) (A6r _) (by have:=HF.out.K;unfold maxLen;omega) (by have:=HF.out.K;omega) (by have:=HE2.out.size;simp;omega) ?_;intro a2 c2 v2 hown hgrow hat
 simp only[Zl,Zh] at hown hat ⊢;have hx:A0 W2 v2:=A0.trans_ (A0.refl W2).drew_ (Below.grown (Below.refl _ _) hgrow (Zk _) (fun k hk=>by cases hk));have y1:v2.cell? ⟨w.heap.size,8,none⟩=some (.slice none 0 0):=hx.cell_ x1;have y2:v2.frozen? ⟨w.heap.size,8,none⟩=false:=(HO2.out.ext hx).frozen 8;have y3:=hx.cell_ s2;have OW:=Hz hown;have HG:Hid (Zo W2 v2 none):=⟨hgrow.os,hgrow.tape,hgrow.output,hgrow.size,fun k hk e=>hgrow.block k hk e⟩;have HAT:=Hz hat
 have HX:=Hz hx;clear hown hgrow hat hx;refine hK.out _ _ ?_ (fun hH=>?_)
 ·(try dsimp only);exact y3
 clear hK K
 try simp only[A5]
 refine tJ 10 64 rfl ?_
 try simp only[A5]
 refine tJ 11 65 rfl ?_
 try simp only[A5]
 refine wpAnyH_ready (rs:=[12]) (by kernel_rfl) (by simp) ?_;refine AllReadyH.cons (o:=⟨none,_,_,_,_,_⟩) rfl (fun K hK=>?_) AllReadyH.nil;go_simp;skip;refine hK.out _ _ ?_ (fun hH=>?_)
 ·(try dsimp only);exact (by rw[Zn _ _ _ _ (by simp;omega)];exact y3)
 clear hK K
 try simp only[A5]
 refine wpAnyH_done (by kernel_rfl) ?_ _;have N2:Hid (OM (v2.setCell ⟨w.heap.size,8,none⟩ (.slice a2 M.weak.length c2)) w.heap.size w.heap.size (L5 M) [⟨3,78,1,a0,M.W.length,c0,C5 M.W⟩,⟨7,78,1,a1,M.roots.length,c1,C5 M.roots⟩,⟨8,78,1,a2,M.weak.length,c2,C5 M.weak⟩,⟨9,138,2,none,0,0,[]⟩,⟨10,4,1,none,0,0,[]⟩]) :=
  OM.fill (L1:=[⟨3,78,1,a0,M.W.length,c0,C5 M.W⟩,⟨7,78,1,a1,M.roots.length,c1,C5 M.roots⟩]) (L2:=[⟨9,138,2,none,0,0,[]⟩,⟨10,4,1,none,0,0,[]⟩]) (f:=⟨8,78,1,none,0,0,[]⟩) HO2.out rfl a2 M.weak.length c2 (C5 M.weak) HG.out OW.out HAT.out
 have M2:Hid (A0 w (v2.setCell ⟨w.heap.size,8,none⟩ (.slice a2 M.weak.length c2))):=A0.set_ (A0.trans_ HE2.out HX.out) (by simp) _;clear OW HG HAT HX y1 y2 y3 x1 hH HO2;go_wp2;refine P4 (fun W3 hW3=>?_);have hO3:OM W3 w.heap.size w.heap.size (L5 M) [⟨3,78,1,a0,M.W.length,c0,C5 M.W⟩,⟨7,78,1,a1,M.roots.length,c1,C5 M.roots⟩,⟨8,78,1,a2,M.weak.length,c2,C5 M.weak⟩,⟨9,138,2,none,0,0,[]⟩,⟨10,4,1,none,0,0,[]⟩]:=by rw[hW3];exact N2.out
 have hE3:A0 w W3:=by rw[hW3];exact M2.out
 have x1:W3.cell? ⟨w.heap.size,9,none⟩=some (.slice none 0 0):=(hO3.fld ⟨9,138,2,none,0,0,[]⟩ (by simp)).1;have s3:W3.cell? ⟨b,o+9,none⟩=some (.slice S.I.1 M.ids.length S.I.2):=(HM.out.ext hE3).ids;have HO3:=Hz hO3;have HE3:=Hz hE3;have hbe:b≠w.heap.size:=by omega
 clear hW3 hO3 hE3;refine wp_region_held_drew (S:=fun W=>W.cell? ⟨b,o+9,none⟩=some (.slice S.I.1 M.ids.length S.I.2)) (by kernel_rfl) ?_ (fun hH=>?_)
 ·exact s3
 refine tJ 0 66 rfl ?_
 try simp only[A5]
 refine tJ 1 67 rfl ?_
 try simp only[A5]
 refine tJ 2 68 rfl ?_
 try simp only[A5]
 refine tJ 3 69 rfl ?_
 try simp only[A5]
 refine tJ 5 71 rfl ?_
 try simp only[A5]
 refine tJ 6 72 rfl ?_
 try simp only[A5]
 refine tJ 7 73 rfl ?_
 try simp only[A5]
 refine tJ 8 74 rfl ?_
 try simp only[A5]
 refine wpAnyH_ready (rs:=[4]) (by kernel_rfl) (by simp) ?_;refine AllReadyH.cons (o:=⟨some 70,_,_,_,_,_⟩) rfl (fun K hK=>?_) AllReadyH.nil;go_simp;skip;refine hK.out _ _ ?_ (fun hH=>?_)
 ·(try dsimp only);exact hH
 clear hK K
 try simp only[A5]
 refine wpAnyH_ready (rs:=[9]) (by kernel_rfl) (by simp) ?_;refine AllReadyH.cons (o:=⟨some 75,_,_,_,_,_⟩) rfl (fun K hK=>?_) AllReadyH.nil;refine A5b (by rfl) _ _ 132 (by rfl) w.heap.size 138 i3 (.agg #[.int .u64 0,.int .i64 0]) 2 16 C3f hi3 h3a h3b h3c (by rfl) (by decide) (.slice none 0 0) 0 [] (by rfl) (Zp _ _ _ _) S.I.1 M.ids.length S.I.2 (G0 M.ids) (by rfl) HM.out.nilI HM.out.capI (C6n _) (((HM.out.ext HE3.out).ext (A0.refl W3).drew_).rI) (B6t _) (by have:=HF.out.I;unfold maxLen;omega) (by have:=HF.out.I;omega) (by have:=HE3.out.size;simp;omega) ?_;intro a3 c3 v3 hown hgrow hat
 simp only[Zl,Zh] at hown hat ⊢;have hx:A0 W3 v3:=A0.trans_ (A0.refl W3).drew_ (Below.grown (Below.refl _ _) hgrow (Zk _) (fun k hk=>by cases hk));have y1:v3.cell? ⟨w.heap.size,9,none⟩=some (.slice none 0 0):=hx.cell_ x1;have y2:v3.frozen? ⟨w.heap.size,9,none⟩=false:=(HO3.out.ext hx).frozen 9;have y3:=hx.cell_ s3;have OW:=Hz hown;have HG:Hid (Zo W3 v3 none):=⟨hgrow.os,hgrow.tape,hgrow.output,hgrow.size,fun k hk e=>hgrow.block k hk e⟩;have HAT:=Hz hat
 have HX:=Hz hx;clear hown hgrow hat hx;refine hK.out _ _ ?_ (fun hH=>?_)
 ·(try dsimp only);exact y3
 clear hK K
 try simp only[A5]
 refine tJ 10 76 rfl ?_
 try simp only[A5]
 refine tJ 11 77 rfl ?_
 try simp only[A5]
 refine wpAnyH_ready (rs:=[12]) (by kernel_rfl) (by simp) ?_;refine AllReadyH.cons (o:=⟨none,_,_,_,_,_⟩) rfl (fun K hK=>?_) AllReadyH.nil;go_simp;skip;refine hK.out _ _ ?_ (fun hH=>?_)
 ·(try dsimp only);exact (by rw[Zn _ _ _ _ (by simp;omega)];exact y3)
 clear hK K
 try simp only[A5]
 refine wpAnyH_done (by kernel_rfl) ?_ _;have N3:Hid (OM (v3.setCell ⟨w.heap.size,9,none⟩ (.slice a3 M.ids.length c3)) w.heap.size w.heap.size (L5 M) [⟨3,78,1,a0,M.W.length,c0,C5 M.W⟩,⟨7,78,1,a1,M.roots.length,c1,C5 M.roots⟩,⟨8,78,1,a2,M.weak.length,c2,C5 M.weak⟩,⟨9,138,2,a3,M.ids.length,c3,G0 M.ids⟩,⟨10,4,1,none,0,0,[]⟩]) :=
  OM.fill (L1:=[⟨3,78,1,a0,M.W.length,c0,C5 M.W⟩,⟨7,78,1,a1,M.roots.length,c1,C5 M.roots⟩,⟨8,78,1,a2,M.weak.length,c2,C5 M.weak⟩]) (L2:=[⟨10,4,1,none,0,0,[]⟩]) (f:=⟨9,138,2,none,0,0,[]⟩) HO3.out rfl a3 M.ids.length c3 (G0 M.ids) HG.out OW.out HAT.out
 have M3:Hid (A0 w (v3.setCell ⟨w.heap.size,9,none⟩ (.slice a3 M.ids.length c3))):=A0.set_ (A0.trans_ HE3.out HX.out) (by simp) _;clear OW HG HAT HX y1 y2 y3 x1 hH HO3;go_wp2;refine P4 (fun W4 hW4=>?_);have hO4:OM W4 w.heap.size w.heap.size (L5 M) [⟨3,78,1,a0,M.W.length,c0,C5 M.W⟩,⟨7,78,1,a1,M.roots.length,c1,C5 M.roots⟩,⟨8,78,1,a2,M.weak.length,c2,C5 M.weak⟩,⟨9,138,2,a3,M.ids.length,c3,G0 M.ids⟩,⟨10,4,1,none,0,0,[]⟩]:=by rw[hW4];exact N3.out
 have hE4:A0 w W4:=by rw[hW4];exact M3.out
 have x1:W4.cell? ⟨w.heap.size,10,none⟩=some (.slice none 0 0):=(hO4.fld ⟨10,4,1,none,0,0,[]⟩ (by simp)).1;have s4:W4.cell? ⟨b,o+10,none⟩=some (.slice S.C.1 M.cards.length S.C.2):=(HM.out.ext hE4).cards;have HO4:=Hz hO4;have HE4:=Hz hE4;have hbe:b≠w.heap.size:=by omega
 clear hW4 hO4 hE4;refine wp_region_held_drew (S:=fun W=>W.cell? ⟨b,o+10,none⟩=some (.slice S.C.1 M.cards.length S.C.2)) (by kernel_rfl) ?_ (fun hH=>?_)
 ·exact s4
 refine tJ 0 78 rfl ?_
 try simp only[A5]
 refine tJ 1 79 rfl ?_
 try simp only[A5]
 refine tJ 2 80 rfl ?_
 try simp only[A5]
 refine tJ 3 81 rfl ?_
 try simp only[A5]
 refine tJ 5 83 rfl ?_
 try simp only[A5]
 refine tJ 6 84 rfl ?_
 try simp only[A5]
 refine tJ 7 85 rfl ?_
 try simp only[A5]
 refine tJ 8 86 rfl ?_
 try simp only[A5]
 refine wpAnyH_ready (rs:=[4]) (by kernel_rfl) (by simp) ?_;refine AllReadyH.cons (o:=⟨some 82,_,_,_,_,_⟩) rfl (fun K hK=>?_) AllReadyH.nil;go_simp;skip;refine hK.out _ _ ?_ (fun hH=>?_)
 ·(try dsimp only);exact hH
 clear hK K
 try simp only[A5]
 refine wpAnyH_ready (rs:=[9]) (by kernel_rfl) (by simp) ?_;refine AllReadyH.cons (o:=⟨some 87,_,_,_,_,_⟩) rfl (fun K hK=>?_) AllReadyH.nil;refine A5b (by rfl) _ _ 64 (by rfl) w.heap.size 4 i4 (.bool false) 1 1 B8n hi4 h4a h4b h4c (by rfl) (by decide) (.slice none 0 0) 0 [] (by rfl) (Zp _ _ _ _) S.C.1 M.cards.length S.C.2 (R7 M.cards) (by rfl) HM.out.nilC HM.out.capC (B9n _) (((HM.out.ext HE4.out).ext (A0.refl W4).drew_).rC) (B9o _) (by have:=HF.out.C;unfold maxLen;omega) (by have:=HF.out.C;omega) (by have:=HE4.out.size;simp;omega) ?_;intro a4 c4 v4 hown hgrow hat
 simp only[Zl,Zh] at hown hat ⊢;have hx:A0 W4 v4:=A0.trans_ (A0.refl W4).drew_ (Below.grown (Below.refl _ _) hgrow (Zk _) (fun k hk=>by cases hk));have y1:v4.cell? ⟨w.heap.size,10,none⟩=some (.slice none 0 0):=hx.cell_ x1;have y2:v4.frozen? ⟨w.heap.size,10,none⟩=false:=(HO4.out.ext hx).frozen 10;have y3:=hx.cell_ s4;have OW:=Hz hown;have HG:Hid (Zo W4 v4 none):=⟨hgrow.os,hgrow.tape,hgrow.output,hgrow.size,fun k hk e=>hgrow.block k hk e⟩;have HAT:=Hz hat
 have HX:=Hz hx;clear hown hgrow hat hx;refine hK.out _ _ ?_ (fun hH=>?_)
 ·(try dsimp only);exact y3
 clear hK K
 try simp only[A5]
 refine tJ 10 88 rfl ?_
 try simp only[A5]
 refine tJ 11 89 rfl ?_
 try simp only[A5]
 refine wpAnyH_ready (rs:=[12]) (by kernel_rfl) (by simp) ?_;refine AllReadyH.cons (o:=⟨none,_,_,_,_,_⟩) rfl (fun K hK=>?_) AllReadyH.nil;go_simp;skip;refine hK.out _ _ ?_ (fun hH=>?_)
 ·(try dsimp only);exact (by rw[Zn _ _ _ _ (by simp;omega)];exact y3)
 clear hK K
 try simp only[A5]
 refine wpAnyH_done (by kernel_rfl) ?_ _;have N4:Hid (OM (v4.setCell ⟨w.heap.size,10,none⟩ (.slice a4 M.cards.length c4)) w.heap.size w.heap.size (L5 M) [⟨3,78,1,a0,M.W.length,c0,C5 M.W⟩,⟨7,78,1,a1,M.roots.length,c1,C5 M.roots⟩,⟨8,78,1,a2,M.weak.length,c2,C5 M.weak⟩,⟨9,138,2,a3,M.ids.length,c3,G0 M.ids⟩,⟨10,4,1,a4,M.cards.length,c4,R7 M.cards⟩]) :=
  OM.fill (L1:=[⟨3,78,1,a0,M.W.length,c0,C5 M.W⟩,⟨7,78,1,a1,M.roots.length,c1,C5 M.roots⟩,⟨8,78,1,a2,M.weak.length,c2,C5 M.weak⟩,⟨9,138,2,a3,M.ids.length,c3,G0 M.ids⟩]) (L2:=[]) (f:=⟨10,4,1,none,0,0,[]⟩) HO4.out rfl a4 M.cards.length c4 (R7 M.cards) HG.out OW.out HAT.out
 have M4:Hid (A0 w (v4.setCell ⟨w.heap.size,10,none⟩ (.slice a4 M.cards.length c4))):=A0.set_ (A0.trans_ HE4.out HX.out) (by simp) _;clear OW HG HAT HX y1 y2 y3 x1 hH HO4;go_wp2;go_ret;exact⟨w.heap.size,⟨(a0,c0),(a1,c1),(a2,c2),(a3,c3),(a4,c4)⟩,rfl,N4.out,M4.out⟩
end Go.Proofs.YtelhoppfidibiaaGreatDoor
