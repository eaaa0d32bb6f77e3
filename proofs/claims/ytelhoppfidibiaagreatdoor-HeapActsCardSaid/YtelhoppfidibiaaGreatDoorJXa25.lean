/- slices.SortFunc at []int: its contract of the library, laid over this program. -/
import Derived.Shelf.SlSortCmp.NoneTotal
import Derived.Lib.SortBridge
import Derived.Test.YtelhoppfidibiaaGreatDoorJXa23
set_option linter.unusedSimpArgs false
set_option linter.unusedVariables false
set_option maxHeartbeats 4000000
set_option maxRecDepth 100000
namespace Go.Proofs.YtelhoppfidibiaaGreatDoor
open Calls renaming quiet_of_same→Za
open IntWalk renaming i64_in→Zb
open List renaming getD_eq_getElem?_getD→Zc,getElem?_eq_getElem→Zd,length_map→Ze
open Go.Proofs.Tryz renaming prog→Zf
open Go.Shelf Go.RowKit Go.Sort
def D1t:Ren where
 f:=fun x=>match x with
  | 6=>99
  | 15=>146
  | 14=>145
  | 28=>169
  | 29=>170
  | 20=>161
  | 21=>162
  | 22=>163
  | 23=>164
  | 24=>165
  | 25=>166
  | 26=>167
  | 27=>168
  | 46=>177
  | 47=>178
  | 48=>179
  | 49=>180
  | 50=>181
  | 57=>184
  | n=>n
 t:=fun x=>match x with
  | 22=>22
  | 24=>3
  | 25=>147
  | 3=>3
  | 39=>143
  | 0=>0
  | 53=>192
  | 55=>78
  | 4=>4
  | 46=>238
  | 45=>237
  | 50=>163
  | 5=>5
  | 9=>9
  | 66=>252
  | 70=>255
  | 76=>257
  | 77=>45
  | n=>n
 g:=fun n=>n
theorem D1s:SlLaysF.n6 Zf D1t where
 mixed:=by kernel_rfl
 f6:=Exists.intro "slices.SortFunc[[]int,int]" ⟨by decide,by kernel_rfl⟩
 f14:=Exists.intro "slices.pdqsortCmpFunc[int]" ⟨by decide,by kernel_rfl⟩
 f15:=by kernel_rfl
 f20:=Exists.intro "slices.insertionSortCmpFunc[int]" ⟨by decide,by kernel_rfl⟩
 f21:=Exists.intro "slices.heapSortCmpFunc[int]" ⟨by decide,by kernel_rfl⟩
 f22:=Exists.intro "slices.breakPatternsCmpFunc[int]" ⟨by decide,by kernel_rfl⟩
 f23:=Exists.intro "slices.choosePivotCmpFunc[int]" ⟨by decide,by kernel_rfl⟩
 f24:=Exists.intro "slices.reverseRangeCmpFunc[int]" ⟨by decide,by kernel_rfl⟩
 f25:=Exists.intro "slices.partialInsertionSortCmpFunc[int]" ⟨by decide,by kernel_rfl⟩
 f26:=Exists.intro "slices.partitionEqualCmpFunc[int]" ⟨by decide,by kernel_rfl⟩
 f27:=Exists.intro "slices.partitionCmpFunc[int]" ⟨by decide,by kernel_rfl⟩
 f28:=by kernel_rfl
 f29:=by kernel_rfl
 f46:=Exists.intro "slices.siftDownCmpFunc[int]" ⟨by decide,by kernel_rfl⟩
 f47:=by kernel_rfl
 f48:=by kernel_rfl
 f49:=Exists.intro "slices.medianAdjacentCmpFunc[int]" ⟨by decide,by kernel_rfl⟩
 f50:=Exists.intro "slices.medianCmpFunc[int]" ⟨by decide,by kernel_rfl⟩
 f57:=Exists.intro "slices.order2CmpFunc[int]" ⟨by decide,by kernel_rfl⟩
 t0:=by kernel_rfl
 a0:=fun w=>by kernel_rfl
 z0:=fun w=>by kernel_rfl
 v0:=fun w=>by kernel_rfl
 t3:=by kernel_rfl
 a3:=fun w=>by kernel_rfl
 z3:=fun w=>by kernel_rfl
 v3:=fun w=>by kernel_rfl
 t4:=by kernel_rfl
 a4:=fun w=>by kernel_rfl
 z4:=fun w=>by kernel_rfl
 v4:=fun w=>by kernel_rfl
 t5:=by kernel_rfl
 a5:=fun w=>by kernel_rfl
 z5:=fun w=>by kernel_rfl
 v5:=fun w=>by kernel_rfl
 t9:=by kernel_rfl
 a9:=fun w=>by kernel_rfl
 z9:=fun w=>by kernel_rfl
 v9:=fun w=>by kernel_rfl
 t22:=by kernel_rfl
 a22:=fun w=>by kernel_rfl
 z22:=fun w=>by kernel_rfl
 v22:=fun w=>by kernel_rfl
 a24:=fun w=>by kernel_rfl
 z24:=fun w=>by kernel_rfl
 t25:=by kernel_rfl
 a25:=fun w=>by kernel_rfl
 z25:=fun w=>by kernel_rfl
 v25:=fun w=>by kernel_rfl
 t39:=by kernel_rfl
 a39:=fun w=>by kernel_rfl
 z39:=fun w=>by kernel_rfl
 v39:=fun w=>by kernel_rfl
 t45:=by kernel_rfl
 a45:=fun w=>by kernel_rfl
 z45:=fun w=>by kernel_rfl
 v45:=fun w=>by kernel_rfl
 t46:=by kernel_rfl
 a46:=fun w=>by kernel_rfl
 z46:=fun w=>by kernel_rfl
 v46:=fun w=>by kernel_rfl
 t50:=by kernel_rfl
 a50:=fun w=>by kernel_rfl
 z50:=fun w=>by kernel_rfl
 v50:=fun w=>by kernel_rfl
 t53:=by kernel_rfl
 a53:=fun w=>by kernel_rfl
 z53:=fun w=>by kernel_rfl
 v53:=fun w=>by kernel_rfl
 t55:=by kernel_rfl
 a55:=fun w=>by kernel_rfl
 z55:=fun w=>by kernel_rfl
 v55:=fun w=>by kernel_rfl
 t66:=by kernel_rfl
 a66:=fun w=>by kernel_rfl
 z66:=fun w=>by kernel_rfl
 v66:=fun w=>by kernel_rfl
 t70:=by kernel_rfl
 a70:=fun w=>by kernel_rfl
 z70:=fun w=>by kernel_rfl
 v70:=fun w=>by kernel_rfl
 t76:=by kernel_rfl
 a76:=fun w=>by kernel_rfl
 z76:=fun w=>by kernel_rfl
 v76:=fun w=>by kernel_rfl
 t77:=by kernel_rfl
 a77:=fun w=>by kernel_rfl
 z77:=fun w=>by kernel_rfl
 v77:=fun w=>by kernel_rfl
open Go.Shelf Go.RowKit Go.Sort
abbrev A20:=Fin 1048576
def A5z (x:A20):Value:=.int .i64 (x.val:Int)
def cfM (hb:Nat) (x y:A20):Int:=if decide (hb≤x.val)=decide (hb≤y.val) then (x.val:Int)-(y.val:Int) else if hb≤x.val then -1 else 1
theorem B4h (hb:Nat) (x y:A20):ltOf (cfM hb) x y=ltM hb x.val y.val:=by
 unfold ltOf cfM ltM;by_cases h1:hb≤x.val<;>by_cases h2:hb≤y.val<;>simp[h1,h2]<;>omega
theorem F6t (hb:Nat):SWO (ltOf (cfM hb)) where
 irrefl x:=by rw[B4h];unfold ltM;simp
 trans x y z h1 h2:=by
  rw[B4h] at *
  unfold ltM at *
  by_cases k1:hb≤x.val<;>by_cases k2:hb≤y.val<;>by_cases k3:hb≤z.val<;>simp[k1,k2,k3] at*<;> omega
 ntrans x y z h1 h2:=by
  rw[B4h] at *
  unfold ltM at *
  by_cases k1:hb≤x.val<;>by_cases k2:hb≤y.val<;>by_cases k3:hb≤z.val<;>simp[k1,k2,k3] at*<;> omega
theorem F7o (hb:Nat) (x y:A20) (h1:ltOf (cfM hb) x y=false) (h2:ltOf (cfM hb) y x=false):x=y:=by
 rw[B4h] at h1 h2;unfold ltM at h1 h2;apply Fin.ext;by_cases k1:hb≤x.val<;>by_cases k2:hb≤y.val<;>simp[k1,k2] at h1 h2<;>omega
theorem B6w (b o:Nat) (half a:Int) (hh:1≤half∧half≤65536) (w:World) (hc:w.cell? ⟨b,o,none⟩=some (.int .i64 half)) :
  Calls Zf 101 #[.pointer (some ⟨b,o,none⟩),.int .i64 a] w fun e w'=>e=.returned (.bool (decide (2*half≤a)))∧w'=w:=by
 have i1:IntKind.i64.wrap (2*half)=2*half:=Zb _ (by omega);have hb:=B9 hc;simp only at hb
 go_enter Tryz.func101,Tryz.ntmps101
 go_wp2;go_ret;exact⟨rfl,rfl⟩
theorem D7e (b xb:Nat) (half:Int) (hh:1≤half∧half≤65536) (X Y:Int) (hX:0≤X∧X≤1048576) (hY:0≤Y∧Y≤1048576) (k1:2*half≤X) (k2:2*half≤Y) (w:World) (h0:w.cell? ⟨xb,0,none⟩=some (.pointer (some ⟨b,0,none⟩))) (hc:w.cell? ⟨b,0,none⟩=some (.int .i64 half)) :
  Calls Zf 100 #[.int .i64 X,.int .i64 Y,.pointer (some ⟨xb,0,none⟩)] w fun e w'=>e=.returned (.int .i64 (X-Y))∧∃ q,w'=w.drewN q:=by
 have i2:IntKind.i64.wrap (X-Y)=X-Y:=Zb _ (by omega);have HC:=Hz hc;have HI:Hid (∀ (a:Int) (W:World),W.cell? ⟨b,0,none⟩=some (.int .i64 half)→Calls Zf 101 #[.pointer (some ⟨b,0,none⟩),.int .i64 a] W fun e w'=>e=.returned (.bool (decide (2*half≤a)))∧w'=W):=fun a W hW=>B6w b 0 half a hh W hW
 have d1:decide (2*half≤X)=true:=by simpa using k1
 have d2:decide (2*half≤Y)=true:=by simpa using k2
 clear hc k1 k2 hX hY hh
 go_enter Tryz.func100,Tryz.ntmps100
 go_wp2
 go_quiet (first
  | (go_at_call 101;exact Za (HI.out _ _ (A0.cell_ (Y0 _ _) HC.out))))
 go_wp2;go_ret;exact⟨rfl,_,rfl⟩
theorem D7f (b xb:Nat) (half:Int) (hh:1≤half∧half≤65536) (X Y:Int) (hX:0≤X∧X≤1048576) (hY:0≤Y∧Y≤1048576) (k1:2*half≤X) (k2:¬2*half≤Y) (w:World) (h0:w.cell? ⟨xb,0,none⟩=some (.pointer (some ⟨b,0,none⟩))) (hc:w.cell? ⟨b,0,none⟩=some (.int .i64 half)) :
  Calls Zf 100 #[.int .i64 X,.int .i64 Y,.pointer (some ⟨xb,0,none⟩)] w fun e w'=>e=.returned (.int .i64 (-1))∧∃ q,w'=w.drewN q:=by
 have i2:IntKind.i64.wrap (X-Y)=X-Y:=Zb _ (by omega);have HC:=Hz hc;have HI:Hid (∀ (a:Int) (W:World),W.cell? ⟨b,0,none⟩=some (.int .i64 half)→Calls Zf 101 #[.pointer (some ⟨b,0,none⟩),.int .i64 a] W fun e w'=>e=.returned (.bool (decide (2*half≤a)))∧w'=W):=fun a W hW=>B6w b 0 half a hh W hW
 have d1:decide (2*half≤X)=true:=by simpa using k1
 have d2:decide (2*half≤Y)=false:=by simpa using k2
 clear hc k1 k2 hX hY hh
 go_enter Tryz.func100,Tryz.ntmps100
 go_wp2
 go_quiet (first
  | (go_at_call 101;exact Za (HI.out _ _ (A0.cell_ (Y0 _ _) HC.out))))
 go_wp2_with (go_at_call 101;refine (HI.out _ _ (A0.cell_ (Y0 _ _) HC.out)).mono ?_;rintro e w' ⟨rfl,hw9⟩;have hw9:=hw9.symm;subst hw9)
 go_ret;exact⟨rfl,_,rfl⟩
theorem D7h (b xb:Nat) (half:Int) (hh:1≤half∧half≤65536) (X Y:Int) (hX:0≤X∧X≤1048576) (hY:0≤Y∧Y≤1048576) (k1:¬2*half≤X) (k2:2*half≤Y) (w:World) (h0:w.cell? ⟨xb,0,none⟩=some (.pointer (some ⟨b,0,none⟩))) (hc:w.cell? ⟨b,0,none⟩=some (.int .i64 half)) :
  Calls Zf 100 #[.int .i64 X,.int .i64 Y,.pointer (some ⟨xb,0,none⟩)] w fun e w'=>e=.returned (.int .i64 (1))∧∃ q,w'=w.drewN q:=by
 have i2:IntKind.i64.wrap (X-Y)=X-Y:=Zb _ (by omega);have HC:=Hz hc;have HI:Hid (∀ (a:Int) (W:World),W.cell? ⟨b,0,none⟩=some (.int .i64 half)→Calls Zf 101 #[.pointer (some ⟨b,0,none⟩),.int .i64 a] W fun e w'=>e=.returned (.bool (decide (2*half≤a)))∧w'=W):=fun a W hW=>B6w b 0 half a hh W hW
 have d1:decide (2*half≤X)=false:=by simpa using k1
 have d2:decide (2*half≤Y)=true:=by simpa using k2
 clear hc k1 k2 hX hY hh
 go_enter Tryz.func100,Tryz.ntmps100
 go_wp2
 go_quiet (first
  | (go_at_call 101;exact Za (HI.out _ _ (A0.cell_ (Y0 _ _) HC.out))))
 go_wp2_with (go_at_call 101;refine (HI.out _ _ (A0.cell_ (Y0 _ _) HC.out)).mono ?_;rintro e w' ⟨rfl,hw9⟩;have hw9:=hw9.symm;subst hw9)
 go_ret;exact⟨rfl,_,rfl⟩
theorem D7i (b xb:Nat) (half:Int) (hh:1≤half∧half≤65536) (X Y:Int) (hX:0≤X∧X≤1048576) (hY:0≤Y∧Y≤1048576) (k1:¬2*half≤X) (k2:¬2*half≤Y) (w:World) (h0:w.cell? ⟨xb,0,none⟩=some (.pointer (some ⟨b,0,none⟩))) (hc:w.cell? ⟨b,0,none⟩=some (.int .i64 half)) :
  Calls Zf 100 #[.int .i64 X,.int .i64 Y,.pointer (some ⟨xb,0,none⟩)] w fun e w'=>e=.returned (.int .i64 (X-Y))∧∃ q,w'=w.drewN q:=by
 have i2:IntKind.i64.wrap (X-Y)=X-Y:=Zb _ (by omega);have HC:=Hz hc;have HI:Hid (∀ (a:Int) (W:World),W.cell? ⟨b,0,none⟩=some (.int .i64 half)→Calls Zf 101 #[.pointer (some ⟨b,0,none⟩),.int .i64 a] W fun e w'=>e=.returned (.bool (decide (2*half≤a)))∧w'=W):=fun a W hW=>B6w b 0 half a hh W hW
 have d1:decide (2*half≤X)=false:=by simpa using k1
 have d2:decide (2*half≤Y)=false:=by simpa using k2
 clear hc k1 k2 hX hY hh
 go_enter Tryz.func100,Tryz.ntmps100
 go_wp2
 go_quiet (first
  | (go_at_call 101;exact Za (HI.out _ _ (A0.cell_ (Y0 _ _) HC.out))))
 go_wp2;go_ret;exact⟨rfl,_,rfl⟩
theorem D7g (b xb:Nat) (half:Int) (hb:Nat) (hhb:(hb:Int)=2*half) (hh:1≤half∧half≤65536) (x y:A20) (w:World) (h0:w.cell? ⟨xb,0,none⟩=some (.pointer (some ⟨b,0,none⟩))) (hc:w.cell? ⟨b,0,none⟩=some (.int .i64 half)) :
  Calls Zf 100 #[.int .i64 (x.val:Int),.int .i64 (y.val:Int),.pointer (some ⟨xb,0,none⟩)] w fun e w'=>e=.returned (.int .i64 (cfM hb x y))∧∃ q,w'=w.drewN q:=by
 have hx:=x.isLt;have hy:=y.isLt;unfold cfM;by_cases k1:hb≤x.val
 ·by_cases k2:hb≤y.val
  ·rw[decide_eq_true k1,decide_eq_true k2,if_pos rfl];exact D7e b xb half hh _ _ ⟨by omega,by omega⟩ ⟨by omega,by omega⟩ (by omega) (by omega) w h0 hc
  ·rw[decide_eq_true k1,decide_eq_false k2,if_neg (by decide),if_pos k1];exact D7f b xb half hh _ _ ⟨by omega,by omega⟩ ⟨by omega,by omega⟩ (by omega) (by omega) w h0 hc
 ·by_cases k2:hb≤y.val
  ·rw[decide_eq_false k1,decide_eq_true k2,if_neg (by decide),if_neg k1];exact D7h b xb half hh _ _ ⟨by omega,by omega⟩ ⟨by omega,by omega⟩ (by omega) (by omega) w h0 hc
  ·rw[decide_eq_false k1,decide_eq_false k2,if_pos rfl];exact D7i b xb half hh _ _ ⟨by omega,by omega⟩ ⟨by omega,by omega⟩ (by omega) (by omega) w h0 hc
open Go.Shelf Go.RowKit Go.Sort
theorem C7p {α:Type} [Inhabited α] (enc:α→Value) (w:World) (blk off n:Nat) (d:Array α) (os:Array Obj):A8 (·=blk) w (sortWorld enc w blk off n d os):=by
 refine⟨rfl,rfl,rfl,?_,fun k hk hn=>?_⟩
 ·show w.heap.size≤(w.heap.modify blk _++os).size;simp
 ·show (w.heap.modify blk _++os)[k]?=_;rw[Array.getElem?_append,if_pos (by simpa using hk),Array.getElem?_modify,if_neg (fun e=>hn e.symm)]
theorem D5r {α:Type} [Inhabited α] (enc:α→Value) (w:World) (blk off n:Nat) (d:Array α) (os:Array Obj) {cur:Array Value} {e:TypeId} {fr:Nat × Nat} (h:w.heap[blk]?=some (.cells cur e fr)):(sortWorld enc w blk off n d os).heap[blk]?=some (.cells (putCells enc off d cur) e fr):=by
 have hlt:=lt_of_block h;show (w.heap.modify blk _++os)[blk]?=_;rw[Array.getElem?_append,if_pos (by simpa using hlt),Array.getElem?_modify,if_pos rfl,h];rfl
theorem F6w {α:Type} [Inhabited α] (enc:α→Value) {w:World} {B blk off cap:Nat} {e:TypeId} {xs:List Value} (d:Array α) (hd:xs.length=d.size) (n:Nat) (os:Array Obj)
  (h:I9 w B e (.slice (some ⟨blk,off,none⟩) xs.length cap) xs):I9 (sortWorld enc w blk off n d os) B e (.slice (some ⟨blk,off,none⟩) (d.toList.map enc).length cap) (d.toList.map enc):=by
 rcases h with⟨h,-⟩|⟨g,of2,cap2,cur,hv,q1,q2,q3,q4,q5,q6⟩
 ·cases h
 ·injection hv with hv1 hv2 hv3;injection hv1 with hv1;injection hv1 with e1 e2;subst e1 e2 hv3;refine Or.inr ⟨blk,off,cap,putCells enc off d cur,rfl,q1,D5r enc w blk off n d os q2,by simp;omega,q4,by simp[putCells];exact q5,?_⟩;apply List.ext_getElem?;intro i;rw[List.getElem?_take,Ze,Array.length_toList];by_cases hi:i<d.size
  ·rw[if_pos hi,List.getElem?_drop,List.getElem?_map,Array.getElem?_toList,Array.getElem?_toList];have hc:off+i<cur.size:=by omega
   unfold putCells;rw[Array.getElem?_mapIdx,Array.getElem?_eq_getElem hc,Array.getElem?_eq_getElem hi];simp only[Option.map_some];rw[if_pos ⟨by omega,by omega⟩,show off+i-off=i by omega,getElem!_pos d i hi]
  ·rw[if_neg hi,List.getElem?_eq_none (by simp;omega)]
def l20 (l:List Nat) (h:∀ a∈l,a<1048576):List A20:=l.pmap (fun a ha=>⟨a,ha⟩) h
theorem C7q (l:List Nat) (h:∀ a∈l,a<1048576):(l20 l h).map (·.val)=l:=by
 unfold l20;rw[List.map_pmap];simp
theorem E4o (hb:Nat) (l:List Nat) (h:∀ a∈l,a<1048576):((l20 l h).mergeSort fun x y=>!ltOf (cfM hb) y x).map (·.val)=l.mergeSort (leM hb):=by
 rw[List.map_mergeSort (s:=leM hb) (fun a _ c _=>by rw[B4h];rfl),C7q]
theorem C5c (l:List A20):l.map A5z=K6 ((l.map (·.val)).map fun a:Nat=>(a:Int)):=by
 unfold K6 A5z;simp
def D4d (w:World) (B g off cap:Nat) (l:List Nat) (e:Ending) (w':World):Prop :=
 e=.returned (.tuple #[])∧I9 w' B 3 (.slice (some ⟨g,off,none⟩) l.length cap) (K6 (l.map fun a:Nat=>(a:Int)))∧A8 (·=g) w w'
theorem F5y (b xb B g off cap:Nat) (half:Int) (hb:Nat) (hhb:(hb:Int)=2*half) (hh:1≤half∧half≤65536) (l:List Nat) (hl:∀ a∈l,a<1048576) (hn:l.length≤1000000) (w:World)
  (h0:w.cell? ⟨xb,0,none⟩=some (.pointer (some ⟨b,0,none⟩))) (hc:w.cell? ⟨b,0,none⟩=some (.int .i64 half)) (n1:xb≠g) (n2:b≠g)
  (hT:I9 w B 3 (.slice (some ⟨g,off,none⟩) l.length cap) (K6 (l.map fun a:Nat=>(a:Int)))) :
  Calls Zf 99 #[.slice (some ⟨g,off,none⟩) l.length cap,.func (.func 100) #[] #[.pointer (some ⟨xb,0,none⟩)]] w (D4d w B g off cap (l.mergeSort (leM hb))):=by
 have hsz:(l20 l hl).toArray.size=l.length:=by simp[l20]
 have hxs:K6 (l.map fun a:Nat=>(a:Int))=(l20 l hl).map A5z:=by rw[C5c,C7q]
 have hR:=(I9.read hT).2;have hlt:g<w.heap.size:=by
  have:=hT.lt (k:=g) rfl;exact this.2
 have hfz:∀ j,w.frozen? ⟨g,j,none⟩=false:=fun j=>by
  rcases hT with⟨q,-⟩|⟨g',of2,cap2,cur,hv,q1,q2,-⟩
  ·cases q
  ·injection hv with hv1 hv2 hv3;injection hv1 with hv1;injection hv1 with e1 e2;subst e1;simp[World.frozen?,q2]
 have hH:Holds A5z w g off (l20 l hl).toArray:=fun j hj=>by
  refine⟨?_,hfz _⟩;have hj':j<(l20 l hl).length:=by simpa using hj
  have h1:(K6 (l.map fun a:Nat=>(a:Int)))[j]?=some (A5z (l20 l hl)[j]):=by rw[hxs,List.getElem?_map,Zd hj'];rfl
  have:=hR.at_ h1;rw[this,getElem!_pos _ j hj];rfl
 have hcmp:CmpReads Zf 100 #[.pointer (some ⟨xb,0,none⟩)] A5z (cfM hb) g off (l20 l hl).toArray.size w:=fun m os dk hdk x y=>by
  have hk:=C7p A5z w g off m dk os;exact D7g b xb half hb hhb hh x y _ (hk.cell (p:=⟨xb,0,none⟩) n1 h0) (hk.cell (p:=⟨b,0,none⟩) n2 hc)
 have eg:∀ args w,(callFunc 100 args).run Zf w=.ok (.enter 100 args) w:=enters_of Tryz.func100 (by kernel_rfl) rfl;have hS:=Any.slices_SortFunc_total D1s A5z (fun _=>rfl) (cfM hb) (F6t hb) 100 #[.pointer (some ⟨xb,0,none⟩)] g off cap (l20 l hl).toArray w eg hcmp.lays hH hlt (by rw[hsz];omega) (F7o hb);rw[hsz] at hS;refine hS.mono ?_;rintro e w' ⟨rfl,n,os,rfl⟩;refine⟨rfl,?_,C7p A5z w g off n _ os⟩;have hlen:(K6 (l.map fun a:Nat=>(a:Int))).length=l.length:=by simp[K6]
 rw[←hlen] at hT;have ht:=F6w A5z (((l20 l hl).toArray.toList.mergeSort fun x y=>!ltOf (cfM hb) y x).toArray) (by simp[l20,K6]) n os hT;have e1:(((l20 l hl).toArray.toList.mergeSort fun x y=>!ltOf (cfM hb) y x).toArray).toList.map A5z=K6 ((l.mergeSort (leM hb)).map fun a:Nat=>(a:Int)):=by
  rw[C5c];show K6 ((((l20 l hl).mergeSort fun x y=>!ltOf (cfM hb) y x).map (·.val)).map fun a:Nat=>(a:Int))=_;rw[E4o]
 rw[e1] at ht;have e2:(K6 ((l.mergeSort (leM hb)).map fun a:Nat=>(a:Int))).length=(l.mergeSort (leM hb)).length:=by simp[K6]
 rw[e2] at ht;exact ht
theorem F5x (p:Option Addr) (cap:Nat) (fv:Value) (w:World):Calls Zf 99 #[.slice p 0 cap,fv] w fun e w'=>e=.returned (.tuple #[])∧w'=w :=
 AnyF.slices_SortFunc_none (P:=Zf) (ρ:=D1t) {D1s with} p cap fv w
theorem F5w (b xb B:Nat) (ta:Option Addr) (tc:Nat) (half:Int) (hb:Nat) (hhb:(hb:Int)=2*half) (hh:1≤half∧half≤65536) (l:List Nat) (hl:∀ a∈l,a<1048576) (hn:l.length≤1000000) (w:World)
  (h0:w.cell? ⟨xb,0,none⟩=some (.pointer (some ⟨b,0,none⟩))) (hc:w.cell? ⟨b,0,none⟩=some (.int .i64 half)) (n1:(Value.slice ta l.length tc).ownBlock≠some xb) (n2:(Value.slice ta l.length tc).ownBlock≠some b)
  (hT:I9 w B 3 (.slice ta l.length tc) (K6 (l.map fun a:Nat=>(a:Int)))) :
  Calls Zf 99 #[.slice ta l.length tc,.func (.func 100) #[] #[.pointer (some ⟨xb,0,none⟩)]] w fun e w' =>
   e=.returned (.tuple #[])∧I9 w' B 3 (.slice ta l.length tc) (K6 ((l.mergeSort (leM hb)).map fun a:Nat=>(a:Int)))∧A8 (fun k=>(Value.slice ta l.length tc).ownBlock=some k) w w':=by
 by_cases he:l=[]
 ·subst he;refine (F5x ta tc _ w).mono ?_;rintro e w' ⟨rfl,rfl⟩;exact⟨rfl,by simpa using hT,A8.refl _ _⟩
 ·have hg:∃ g off,ta=some ⟨g,off,none⟩:=by
   rcases hT with⟨q,q2⟩|⟨g,off,cap,cur,hv,-⟩
   ·exfalso;apply he;have:(K6 (l.map fun a:Nat=>(a:Int))).length=0:=by rw[q2];rfl
    exact List.eq_nil_of_length_eq_zero (by simpa [K6] using this)
   ·injection hv with hv1;exact⟨g,off,hv1⟩
  obtain⟨g,off,rfl⟩:=hg;have hlen:(l.mergeSort (leM hb)).length=l.length:=(List.mergeSort_perm _ _).length_eq;refine (F5y b xb B g off tc half hb hhb hh l hl hn w h0 hc (fun e=>n1 (by rw[e];rfl)) (fun e=>n2 (by rw[e];rfl)) hT).mono ?_;rintro e w' ⟨rfl,h1,h2⟩;rw[hlen] at h1;exact⟨rfl,h1,h2.sub fun k hk=>by rw[hk];rfl⟩
open Go.RowKit
def toE (l:List (Nat × Nat)):List (Int × Int):=l.map fun p=>((p.1:Int),(p.2:Int))
theorem C2z (l:List (Nat × Nat)) (a:Nat):K0 (toE l) (a:Int)=(A6h l a).map fun t:Nat=>(t:Int):=by
 unfold K0 A6h toE;rw[List.find?_map];have e:((fun p:Int × Int=>(a:Int)==p.1)∘fun p:Nat × Nat=>((p.1:Int),(p.2:Int)))=fun p:Nat × Nat=>a==p.1:=by
  funext p
  simp only[Function.comp];rw[Bool.eq_iff_iff];simp only[beq_iff_eq];omega
 rw[e]
 cases l.find? (fun p=>a==p.1)<;>rfl
structure FwV (w:World) (nb tb mb mt:Nat) (M:A7):Prop where
 n:w.cell? ⟨nb,0,none⟩=some (.map (some mb))
 t:w.cell? ⟨tb,0,none⟩=some (.map (some mt))
 num:N8 w mb .i64 (mvE (A0a (G9 (F5 M))))
 to_:N8 w mt .i64 (mvE (toE (N5 M)))
theorem FwV.ext {w w':World} {nb tb mb mt:Nat} {M:A7} (h:FwV w nb tb mb mt M) (hx:A0 w w'):FwV w' nb tb mb mt M:=⟨hx.cell_ h.n,hx.cell_ h.t,h.num.ext hx,h.to_.ext hx⟩
theorem B0p {w:World} {mb:Nat} {es:List (Int × Int)} (h:N8 w mb .i64 (mvE es)) (k:Int) (c:Bool) :
  (Instr.lookup 103 (.map (some mb)) (.int .i64 k) c).run Zf w=.ok (if c then .tuple #[((K0 es k).map (.int .i64 ·)).getD (.int .i64 0),.bool (K0 es k).isSome] else ((K0 es k).map (.int .i64 ·)).getD (.int .i64 0)) w:=by
 rw[B4w B1b A8r (C3m w) h k c,C1p]
 cases K0 es k<;>rfl
theorem E1d (M:A7) (u:Int) (h0:0≤u) (h1:u≤18446744073709551615) (nb tb mb mt:Nat) (w:World) (h:FwV w nb tb mb mt M) (hk:C7 u≠0∨u=0) :
  Calls Zf 102 #[.int .u64 u,.pointer (some ⟨nb,0,none⟩),.pointer (some ⟨tb,0,none⟩)] w fun e w'=>e=.returned (.tuple #[.int .u64 u,.bool true])∧A0 w w':=by
 clear h;by_cases hk0:C7 u=0
 ·have hu:u=0:=by omega
  subst hu;have hk1:(C7 0==0)=true:=by decide
  go_enter Tryz.func102,Tryz.ntmps102
  go_wp2_with (go_at_call 103;refine (O8 _ h0 h1 _).mono ?_;rintro e w' ⟨rfl,hw9⟩;have hw9:=hw9.symm;subst hw9)
  go_ret2
  exact⟨rfl,A0.refl _⟩
 ·have hk1:(C7 u==0)=false:=by simpa using hk0
  clear hk
  go_enter Tryz.func102,Tryz.ntmps102
  go_wp2_with (go_at_call 103;refine (O8 _ h0 h1 _).mono ?_;rintro e w' ⟨rfl,hw9⟩;have hw9:=hw9.symm;subst hw9)
  go_ret2
  exact⟨rfl,A0.refl _⟩
theorem E1c (M:A7) (u:Int) (h0:0≤u) (h1:u≤18446744073709551615) (nb tb mb mt:Nat) (w:World) (h:FwV w nb tb mb mt M) (hk:C7 u=0) (hu:u≠0) (hi:F8 (G9 (F5 M)) (C9 u)=false) :
  Calls Zf 102 #[.int .u64 u,.pointer (some ⟨nb,0,none⟩),.pointer (some ⟨tb,0,none⟩)] w fun e w'=>e=.returned (.tuple #[.int .u64 2,.bool false])∧A0 w w':=by
 have hk1:(C7 u==0)=true:=by simpa using hk
 have hu1:(u==0)=false:=by simpa using hu
 have hlk:∀ n,(Instr.lookup 103 (.map (some mb)) (.int .i64 (C9 u)) true).run Zf (w.drewN n)=.ok (.tuple #[.int .i64 0,.bool false]) (w.drewN n):=fun n=>by
  rw[B0p ((h.num).drewN n),C9e hi];rfl
 have hcn:=h.n;have hcon:P3 0=2:=by decide
 clear h hi
 go_enter Tryz.func102,Tryz.ntmps102
 go_wp2_with (go_at_call 103;refine (O8 _ h0 h1 _).mono ?_;rintro e w' ⟨rfl,hw9⟩;have hw9:=hw9.symm;subst hw9)
 go_quiet (first
  | (go_at_call 104;exact Za (A0h _ h0 h1 _)))
 go_wp2_with (go_at_call 39;refine (B3n 0 _).mono ?_;rintro e w' ⟨he,hw9⟩;rw[hcon] at he;subst he;have hw9:=hw9.symm;subst hw9)
 go_ret2
 exact⟨rfl,A0.drewN_ (A0.refl _) _⟩
theorem E1e (M:A7) (u:Int) (h0:0≤u) (h1:u≤18446744073709551615) (nb tb mb mt:Nat) (w:World) (h:FwV w nb tb mb mt M) (hk:C7 u=0) (hu:u≠0) (hi:F8 (G9 (F5 M)) (C9 u)=true) (t:Nat) (a:Nat) (ha:C9 u=(a:Int)) (hl:A6h (N5 M) a=some t) :
  Calls Zf 102 #[.int .u64 u,.pointer (some ⟨nb,0,none⟩),.pointer (some ⟨tb,0,none⟩)] w fun e w'=>e=.returned (.tuple #[.int .u64 (D3 t),.bool true])∧A0 w w':=by
 have hk1:(C7 u==0)=true:=by simpa using hk
 have hu1:(u==0)=false:=by simpa using hu
 obtain⟨i,hm⟩:=C9f hi;have hlk:∀ n,(Instr.lookup 103 (.map (some mb)) (.int .i64 (C9 u)) true).run Zf (w.drewN n)=.ok (.tuple #[.int .i64 i,.bool true]) (w.drewN n):=fun n=>by
  rw[B0p ((h.num).drewN n),hm];rfl
 have HT:Hid (∀ W:World,N8 W mt .i64 (mvE (toE (N5 M)))→(Instr.lookup 103 (.map (some mt)) (.int .i64 (C9 u)) false).run Zf W=.ok (.int .i64 (t:Int)) W):=fun W hW=>by
  rw[B0p hW,ha,C2z,hl];rfl
 have hcn:=h.n;have HH:=Hz h;clear h hi hm hl ha
 go_enter Tryz.func102,Tryz.ntmps102
 go_wp2_with (go_at_call 103;refine (O8 _ h0 h1 _).mono ?_;rintro e w' ⟨rfl,hw9⟩;have hw9:=hw9.symm;subst hw9)
 go_quiet (first
  | (go_at_call 104;exact Za (A0h _ h0 h1 _)))
 go_wp2;refine P4 (fun W2 hW2=>?_);have hE2:A0 w W2:=by rw[hW2];exact A0.drewN_ (A0.refl _) _
 have hct:=(HH.out.ext hE2).t;have hlt:∀ n,(Instr.lookup 103 (.map (some mt)) (.int .i64 (C9 u)) false).run Zf (W2.drewN n)=.ok (.int .i64 (t:Int)) (W2.drewN n):=fun n=>HT.out _ (((HH.out.ext hE2).to_).drewN n)
 have HE2:=Hz hE2;clear hW2 hE2 hlk hcn
 go_quiet (first
  | (go_at_call 104;exact Za (A0h _ h0 h1 _))
  | (go_at_call 43;exact Za (B0g _ _)))
 go_wp2
 go_ret2
 exact⟨rfl,A0.drewN_ HE2.out _⟩
theorem B3z (M:A7) (hg:goodB M=true) (u:Int) (h0:0≤u) (h1:u≤18446744073709551615) (hf:D0 (C6 M) u=true) (nb tb mb mt:Nat) (w:World) (h:FwV w nb tb mb mt M) :
  Calls Zf 102 #[.int .u64 u,.pointer (some ⟨nb,0,none⟩),.pointer (some ⟨tb,0,none⟩)] w fun e w'=>e=.returned (.tuple #[.int .u64 (Q0 M u).1,.bool (Q0 M u).2])∧A0 w w':=by
 unfold Q0;by_cases hk:C7 u≠0∨u=0
 ·rw[if_pos hk];exact E1d M u h0 h1 nb tb mb mt w h hk
 ·rw[if_neg hk];by_cases hi:F8 (G9 (F5 M)) (C9 u)=true
  ·rw[if_pos hi];obtain⟨o,ho,e⟩:=B1y.1 hi;have hd:Z7 M o.a:=List.mem_map_of_mem (f:=(·.a)) ho;obtain⟨t,ht⟩:=C1h (l:=N5 M) (a:=o.a) (by unfold N5;rw[A7j];exact (B4o M o.a).2 hd);have et:N6 M o.a=t:=by unfold N6;rw[ht];rfl
   rw[←e,Int.toNat_natCast,et];exact E1e M u h0 h1 nb tb mb mt w h (by omega) (by omega) hi t o.a e.symm ht
  ·rw[if_neg hi];exact E1c M u h0 h1 nb tb mb mt w h (by omega) (by omega) (by simpa using hi)
def V9 (f:Int→Int) (l:List Int) (k:Nat):List Int:=(l.take k).map f++l.drop k
theorem D2t (f:Int→Int) (l:List Int):V9 f l 0=l:=by simp[V9]
theorem D2p (f:Int→Int) (l:List Int):V9 f l l.length=l.map f:=by simp[V9]
theorem D2r (f:Int→Int) (l:List Int) (k:Nat):(V9 f l k).length=l.length:=by simp[V9];omega
theorem D2q (f:Int→Int) (l:List Int) (k:Nat) (hk:k<l.length):(V9 f l k).getD k 0=l.getD k 0:=by
 unfold V9;have hl:((l.take k).map f).length=k:=by rw[Ze,List.length_take];omega
 rw[Zc,List.getElem?_append_right (by omega),hl,Nat.sub_self,List.getElem?_drop,Nat.add_zero,Zc]
theorem D2s (f:Int→Int) (l:List Int) (k:Nat) (hk:k<l.length):(V9 f l k).set k (f (l.getD k 0))=V9 f l (k+1):=by
 unfold V9;have hl:((l.take k).map f).length=k:=by rw[Ze,List.length_take];omega
 rw[List.set_append_right _ _ (by omega),hl,Nat.sub_self,List.drop_eq_getElem_cons hk,List.set_cons_zero,List.take_add_one,Zd hk,List.map_append,Zc,Zd hk];simp
def A8h (M:A7) (l:List (Int × Int)):List (Int × Int):=l.filterMap fun x=>if (Q0 M x.1).2 then some ((Q0 M x.1).1,x.2) else none
theorem E3a (M:A7) (l:List (Int × Int)) (k:Nat) (hk:k<l.length):A8h M (l.take (k+1))=if (Q0 M l[k].1).2 then A8h M (l.take k)++[((Q0 M l[k].1).1,l[k].2)] else A8h M (l.take k):=by
 unfold A8h;rw[List.take_add_one,Zd hk,List.filterMap_append]
 cases h:(Q0 M l[k].1).2<;>simp[h]
theorem E2z (M:A7) (l:List (Int × Int)):(A8h M l).length≤l.length:=List.length_filterMap_le _ _
section
variable {w w1:World} {B b:Nat} {M:A7} {S:C8}
theorem B7.clearC (h:B7 w B b 140 M S) {g:Nat} (hg:S.C.1=some ⟨g,0,none⟩) {cur:List Value} (hc:w.heap[g]?=some (.cells cur.toArray 4 (0,0))) {n:Nat} (hn:n=M.cards.length) (hb:But g w w1) (hw:w1.heap[g]?=some (.cells (splice cur 0 (List.replicate n (.bool false))).toArray 4 (0,0))) :
  B7 w1 B b 140 {M with cards:=List.replicate n false} S:=by
 subst hn;have hr:=B4p h.fC hg hc 0 (List.replicate M.cards.length (.bool false)) (by simp) hw;have e:splice (R7 M.cards) 0 (List.replicate M.cards.length (Value.bool false))=R7 (List.replicate M.cards.length false):=by
  unfold splice R7;have:(M.cards.map Value.bool).length=M.cards.length:=by simp
  simp
 rw[e] at hr;exact h.rowC hg hb _ (by simp) hr
theorem E5n (h:B7 w B b 140 M S) (a:Option Addr) (c:Nat) (l:List (Int × Int)) (ho:w.ownsRow B 140 2 (.slice a l.length c) l.length (G0 l)) (hn:∀ k,(Value.slice a l.length c).ownBlock=some k→¬G1 b S k) (t:Int) :
  B7 (((w.setCell ⟨b,9,none⟩ (.slice a l.length c)).setCell ⟨b,5,none⟩ (.int .i64 0)).setCell ⟨b,6,none⟩ (.int .i64 t)) B b 140 {M with ids:=l,top:=0,oldTop:=t} {S with I:=(a,c)} :=
 B7.setOldTop (B7.setTop (h.putI a c l ho hn) 0) t
theorem E5o (u1 u2 u3:Value):A8 (G1 b S) w (((w.setCell ⟨b,9,none⟩ u1).setCell ⟨b,5,none⟩ u2).setCell ⟨b,6,none⟩ u3) :=
 A8.set_ (A8.set_ (A8.set_ (A8.refl _ w) (p:=⟨b,9,none⟩) (Or.inl (Or.inl rfl)) _) (p:=⟨b,5,none⟩) (Or.inl (Or.inl rfl)) _) (p:=⟨b,6,none⟩) (Or.inl (Or.inl rfl)) _
end
def B2b (M:A7):Nat→A7
 | 0=>{M with W:=O9 M}
 | 1=>{M with W:=O9 M,roots:=M.roots.map (J9 M)}
 | _+2=>{M with W:=O9 M,roots:=M.roots.map (J9 M),weak:=M.weak.map (J9 M)}
theorem I7.okR {M:A7} (h:I7 M):(B2b M 2).Ok :=
 {h.ok with W:=h.okN.W,lenW:=h.okN.lenW,roots:=h.okN.roots,lenR:=h.okN.lenR,weak:=h.okN.weak,lenK:=h.okN.lenK}
theorem F7m (M:A7):V8 M (K3 M).length=B1r M:=by
 unfold V8 B1r;rw[List.take_length]
theorem D6o {M:A7} (h:G2 M):0<M.cards.length∧M.cards.length≤200000:=by
 have c1:=h.c1;have c2:=h.c2;have o1:=h.o1;have o2:=h.o2;have cl:=h.cl;have hclen:0<M.cards.length:=by
  have:=h.card (2*M.half) (Int.le_refl _) (by omega);omega
 have h2:(M.old+M.card-1)/M.card≤(M.old+M.card-1):=by
  rcases Int.lt_or_le (M.old+M.card-1) 0 with q|q
  ·omega
  ·exact Int.ediv_le_self _ q
 exact⟨hclen,by omega⟩
theorem B9y {P:Program} {W:World} (dT ty elem:TypeId) (hu:P.underlying dT=some (.slice elem)) (hsz:(P.info? elem).map (·.size)=some 1) {B:Nat} {a:Option Addr} {c:Nat} {xs:List Value}
  (h:W.ownsRow B elem 1 (.slice a xs.length c) xs.length xs) {g:Nat} (ha:a=some ⟨g,0,none⟩) (A1 A2:Option Addr) (C1 C2 d nd:Nat) (src:List Value) (hA1:A1=some ⟨g,d,none⟩) (p2:Addr) (hA2:A2=some p2)
  (hrd:∀ k u,src[k]?=some u→W.cell? (p2.add k)=some u) (h1:∀ v∈src,v.oneCell'=true) (h0:0<src.length) (hnd:src.length≤nd) (hd:d+src.length≤xs.length) :
  ∃ w',(Builtin.copy_ #[dT,dT] ty #[.slice A1 nd C1,.slice A2 src.length C2]).run P W=.ok (goInt src.length) w'∧But g W w'∧w'.ownsRow B elem 1 (.slice a xs.length c) xs.length (splice xs d src):=by
 obtain⟨g',hg',-,-,-,hc,cur,hh,hlen,htake⟩:=Q3 h (by omega);rw[ha] at hg';injection hg' with hg';injection hg' with hg';subst hg';have hcl:xs.length≤cur.length:=by omega
 obtain⟨w',hr,hg2,hb⟩:=C2n (P:=P) (w:=W) dT dT ty elem hu hsz A1 A2 nd C1 src.length C2 g d cur elem hh src (Nat.min_eq_left hnd).symm
  (fun _=>⟨hA1,p2,hA2,hrd⟩) (by omega) h1
 exact⟨w',hr,hb,B4p h ha hh d src hd hg2⟩
end Go.Proofs.YtelhoppfidibiaaGreatDoor
