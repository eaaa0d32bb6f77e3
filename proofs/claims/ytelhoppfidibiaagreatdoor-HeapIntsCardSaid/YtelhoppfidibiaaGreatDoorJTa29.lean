/- slices.SortFunc at the order's slice. -/
import Derived.Test.YtelhoppfidibiaaGreatDoorJTa28
import Derived.Test.YtelhoppfidibiaaGreatDoorJTa22
import Derived.Test.YtelhoppfidibiaaGreatDoorJTa20
import Derived.BigQuiet
import Derived.Test.YtelhoppfidibiaaGreatDoorJTa18
import Derived.Test.YtelhoppfidibiaaGreatDoorJTa12
import Derived.Test.YtelhoppfidibiaaGreatDoorJTa27
import Derived.Test.YtelhoppfidibiaaGreatDoorJTa11
set_option linter.unusedSimpArgs false
set_option linter.unusedVariables false
set_option maxHeartbeats 4000000
set_option maxRecDepth 100000
namespace Go.Proofs.YtelhoppfidibiaaGreatDoor
open Go.Shelf Go.RowKit Go.Sort
theorem keep_sortWorld {α:Type} [Inhabited α] (enc:α→Value) (w:World) (blk off n:Nat) (d:Array α) (os:Array Obj):Keep (·=blk) w (sortWorld enc w blk off n d os):=by
 refine⟨rfl,rfl,rfl,?_,fun k hk hn=>?_⟩
 ·show w.heap.size≤(w.heap.modify blk _++os).size
  simp
 ·show (w.heap.modify blk _++os)[k]?=_
  rw[Array.getElem?_append,if_pos (by simpa using hk),Array.getElem?_modify,if_neg (fun e=>hn e.symm)]
theorem block_sortWorld {α:Type} [Inhabited α] (enc:α→Value) (w:World) (blk off n:Nat) (d:Array α) (os:Array Obj) {cur:Array Value} {e:TypeId} {fr:Nat × Nat} (h:w.heap[blk]?=some (.cells cur e fr)):(sortWorld enc w blk off n d os).heap[blk]?=some (.cells (putCells enc off d cur) e fr):=by
 have hlt:=lt_of_block h
 show (w.heap.modify blk _++os)[blk]?=_
 rw[Array.getElem?_append,if_pos (by simpa using hlt),Array.getElem?_modify,if_pos rfl,h]
 rfl
theorem tail_sortWorld {α:Type} [Inhabited α] (enc:α→Value) {w:World} {B blk off cap:Nat} {e:TypeId} {xs:List Value} (d:Array α) (hd:xs.length=d.size) (n:Nat) (os:Array Obj)
  (h:Tail w B e (.slice (some ⟨blk,off,none⟩) xs.length cap) xs):Tail (sortWorld enc w blk off n d os) B e (.slice (some ⟨blk,off,none⟩) (d.toList.map enc).length cap) (d.toList.map enc):=by
 rcases h with⟨h,-⟩|⟨g,of2,cap2,cur,hv,q1,q2,q3,q4,q5,q6⟩
 ·cases h
 ·injection hv with hv1 hv2 hv3
  injection hv1 with hv1
  injection hv1 with e1 e2
  subst e1 e2 hv3
  refine Or.inr ⟨blk,off,cap,putCells enc off d cur,rfl,q1,block_sortWorld enc w blk off n d os q2,by simp;omega,q4,by simp[putCells];exact q5,?_⟩
  apply List.ext_getElem?
  intro i
  rw[List.getElem?_take,List.length_map,Array.length_toList]
  by_cases hi:i<d.size
  ·rw[if_pos hi,List.getElem?_drop,List.getElem?_map,Array.getElem?_toList,Array.getElem?_toList]
   have hc:off+i<cur.size:=by omega
   unfold putCells
   rw[Array.getElem?_mapIdx,Array.getElem?_eq_getElem hc,Array.getElem?_eq_getElem hi]
   simp only[Option.map_some]
   rw[if_pos ⟨by omega,by omega⟩,show off+i-off=i by omega,getElem!_pos d i hi]
  ·rw[if_neg hi,List.getElem?_eq_none (by simp;omega)]
def l20 (l:List Nat) (h:∀ a∈l,a<1048576):List A20:=l.pmap (fun a ha=>⟨a,ha⟩) h
theorem l20_val (l:List Nat) (h:∀ a∈l,a<1048576):(l20 l h).map (·.val)=l:=by
 unfold l20
 rw[List.map_pmap]
 simp
theorem l20_sort (hb:Nat) (l:List Nat) (h:∀ a∈l,a<1048576):((l20 l h).mergeSort fun x y=>!ltOf (cfM hb) y x).map (·.val)=l.mergeSort (leM hb):=by
 rw[List.map_mergeSort (s:=leM hb) (fun a _ c _=>by rw[lt_cfM];rfl),l20_val]
theorem enc20_map (l:List A20):l.map enc20=tcells ((l.map (·.val)).map fun a:Nat=>(a:Int)):=by
 unfold tcells enc20
 simp
def SortPost (w:World) (B g off cap:Nat) (l:List Nat) (e:Ending) (w':World):Prop :=
 e=.returned (.tuple #[])∧Tail w' B 3 (.slice (some ⟨g,off,none⟩) l.length cap) (tcells (l.map fun a:Nat=>(a:Int)))∧Keep (·=g) w w'
theorem sort_walk (b xb B g off cap:Nat) (half:Int) (hb:Nat) (hhb:(hb:Int)=2*half) (hh:1≤half∧half≤65536) (l:List Nat) (hl:∀ a∈l,a<1048576) (hn:l.length≤1000000) (w:World)
  (h0:w.cell? ⟨xb,0,none⟩=some (.pointer (some ⟨b,0,none⟩))) (hc:w.cell? ⟨b,0,none⟩=some (.int .i64 half)) (n1:xb≠g) (n2:b≠g)
  (hT:Tail w B 3 (.slice (some ⟨g,off,none⟩) l.length cap) (tcells (l.map fun a:Nat=>(a:Int)))) :
  Calls Tryz.prog 99 #[.slice (some ⟨g,off,none⟩) l.length cap,.func (.func 100) #[] #[.pointer (some ⟨xb,0,none⟩)]] w (SortPost w B g off cap (l.mergeSort (leM hb))):=by
 have hsz:(l20 l hl).toArray.size=l.length:=by simp[l20]
 have hxs:tcells (l.map fun a:Nat=>(a:Int))=(l20 l hl).map enc20:=by rw[enc20_map,l20_val]
 have hR:=(Tail.read hT).2
 have hlt:g<w.heap.size:=by
  have:=hT.lt (k:=g) rfl
  exact this.2
 have hfz:∀ j,w.frozen? ⟨g,j,none⟩=false:=fun j=>by
  rcases hT with⟨q,-⟩|⟨g',of2,cap2,cur,hv,q1,q2,-⟩
  ·cases q
  ·injection hv with hv1 hv2 hv3
   injection hv1 with hv1
   injection hv1 with e1 e2
   subst e1
   simp[World.frozen?,q2]
 have hH:Holds enc20 w g off (l20 l hl).toArray:=fun j hj=>by
  refine⟨?_,hfz _⟩
  have hj':j<(l20 l hl).length:=by simpa using hj
  have h1:(tcells (l.map fun a:Nat=>(a:Int)))[j]?=some (enc20 (l20 l hl)[j]):=by rw[hxs,List.getElem?_map,List.getElem?_eq_getElem hj'];rfl
  have:=hR.at_ h1
  rw[this,getElem!_pos _ j hj]
  rfl
 have hcmp:CmpReads Tryz.prog 100 #[.pointer (some ⟨xb,0,none⟩)] enc20 (cfM hb) g off (l20 l hl).toArray.size w:=fun m os dk hdk x y=>by
  have hk:=keep_sortWorld enc20 w g off m dk os
  exact cmp1_walk b xb half hb hhb hh x y _ (hk.cell (p:=⟨xb,0,none⟩) n1 h0) (hk.cell (p:=⟨b,0,none⟩) n2 hc)
 have eg:∀ args w,(callFunc 100 args).run Tryz.prog w=.ok (.enter 100 args) w:=enters_of Tryz.func100 (by kernel_rfl) rfl
 have hS:=Any.slices_SortFunc_total sortL enc20 (fun _=>rfl) (cfM hb) (swoM hb) 100 #[.pointer (some ⟨xb,0,none⟩)] g off cap (l20 l hl).toArray w eg hcmp.lays hH hlt (by rw[hsz];omega) (totM hb)
 rw[hsz] at hS
 refine hS.mono ?_
 rintro e w' ⟨rfl,n,os,rfl⟩
 refine⟨rfl,?_,keep_sortWorld enc20 w g off n _ os⟩
 have hlen:(tcells (l.map fun a:Nat=>(a:Int))).length=l.length:=by simp[tcells]
 rw[←hlen] at hT
 have ht:=tail_sortWorld enc20 (((l20 l hl).toArray.toList.mergeSort fun x y=>!ltOf (cfM hb) y x).toArray) (by simp[l20,tcells]) n os hT
 have e1:(((l20 l hl).toArray.toList.mergeSort fun x y=>!ltOf (cfM hb) y x).toArray).toList.map enc20=tcells ((l.mergeSort (leM hb)).map fun a:Nat=>(a:Int)):=by
  rw[enc20_map]
  show tcells ((((l20 l hl).mergeSort fun x y=>!ltOf (cfM hb) y x).map (·.val)).map fun a:Nat=>(a:Int))=_
  rw[l20_sort]
 rw[e1] at ht
 have e2:(tcells ((l.mergeSort (leM hb)).map fun a:Nat=>(a:Int))).length=(l.mergeSort (leM hb)).length:=by simp[tcells]
 rw[e2] at ht
 exact ht
theorem sort_none (p:Option Addr) (cap:Nat) (fv:Value) (w:World):Calls Tryz.prog 99 #[.slice p 0 cap,fv] w fun e w'=>e=.returned (.tuple #[])∧w'=w :=
 AnyF.slices_SortFunc_none (P:=Tryz.prog) (ρ:=sortRen) {sortL with} p cap fv w
theorem sort_any (b xb B:Nat) (ta:Option Addr) (tc:Nat) (half:Int) (hb:Nat) (hhb:(hb:Int)=2*half) (hh:1≤half∧half≤65536) (l:List Nat) (hl:∀ a∈l,a<1048576) (hn:l.length≤1000000) (w:World)
  (h0:w.cell? ⟨xb,0,none⟩=some (.pointer (some ⟨b,0,none⟩))) (hc:w.cell? ⟨b,0,none⟩=some (.int .i64 half)) (n1:(Value.slice ta l.length tc).ownBlock≠some xb) (n2:(Value.slice ta l.length tc).ownBlock≠some b)
  (hT:Tail w B 3 (.slice ta l.length tc) (tcells (l.map fun a:Nat=>(a:Int)))) :
  Calls Tryz.prog 99 #[.slice ta l.length tc,.func (.func 100) #[] #[.pointer (some ⟨xb,0,none⟩)]] w fun e w' =>
   e=.returned (.tuple #[])∧Tail w' B 3 (.slice ta l.length tc) (tcells ((l.mergeSort (leM hb)).map fun a:Nat=>(a:Int)))∧Keep (fun k=>(Value.slice ta l.length tc).ownBlock=some k) w w':=by
 by_cases he:l=[]
 ·subst he
  refine (sort_none ta tc _ w).mono ?_
  rintro e w' ⟨rfl,rfl⟩
  exact⟨rfl,by simpa using hT,Keep.refl _ _⟩
 ·have hg:∃ g off,ta=some ⟨g,off,none⟩:=by
   rcases hT with⟨q,q2⟩|⟨g,off,cap,cur,hv,-⟩
   ·exfalso
    apply he
    have:(tcells (l.map fun a:Nat=>(a:Int))).length=0:=by rw[q2];rfl
    exact List.eq_nil_of_length_eq_zero (by simpa [tcells] using this)
   ·injection hv with hv1
    exact⟨g,off,hv1⟩
  obtain⟨g,off,rfl⟩:=hg
  have hlen:(l.mergeSort (leM hb)).length=l.length:=(List.mergeSort_perm _ _).length_eq
  refine (sort_walk b xb B g off tc half hb hhb hh l hl hn w h0 hc (fun e=>n1 (by rw[e];rfl)) (fun e=>n2 (by rw[e];rfl)) hT).mono ?_
  rintro e w' ⟨rfl,h1,h2⟩
  rw[hlen] at h1
  exact⟨rfl,h1,h2.sub fun k hk=>by rw[hk];rfl⟩
open Go.RowKit
def toE (l:List (Nat × Nat)):List (Int × Int):=l.map fun p=>((p.1:Int),(p.2:Int))
theorem toE_look (l:List (Nat × Nat)) (a:Nat):mlook (toE l) (a:Int)=(lookN l a).map fun t:Nat=>(t:Int):=by
 unfold mlook lookN toE
 rw[List.find?_map]
 have e:((fun p:Int × Int=>(a:Int)==p.1)∘fun p:Nat × Nat=>((p.1:Int),(p.2:Int)))=fun p:Nat × Nat=>a==p.1:=by
  funext p
  simp only[Function.comp]
  rw[Bool.eq_iff_iff]
  simp only[beq_iff_eq]
  omega
 rw[e]
 cases l.find? (fun p=>a==p.1)<;>rfl
structure FwV (w:World) (nb tb mb mt:Nat) (M:Mem):Prop where
 n:w.cell? ⟨nb,0,none⟩=some (.map (some mb))
 t:w.cell? ⟨tb,0,none⟩=some (.map (some mt))
 num:MapI w mb .i64 (mvE (numE (ats (reachP M))))
 to_:MapI w mt .i64 (mvE (toE (toM M)))
theorem FwV.ext {w w':World} {nb tb mb mt:Nat} {M:Mem} (h:FwV w nb tb mb mt M) (hx:Ext w w'):FwV w' nb tb mb mt M:=⟨hx.cell_ h.n,hx.cell_ h.t,h.num.ext hx,h.to_.ext hx⟩
theorem map_look {w:World} {mb:Nat} {es:List (Int × Int)} (h:MapI w mb .i64 (mvE es)) (k:Int) (c:Bool) :
  (Instr.lookup 103 (.map (some mb)) (.int .i64 k) c).run Tryz.prog w=.ok (if c then .tuple #[((mlook es k).map (.int .i64 ·)).getD (.int .i64 0),.bool (mlook es k).isSome] else ((mlook es k).map (.int .i64 ·)).getD (.int .i64 0)) w:=by
 rw[run_lookup_mapi undMoved undInt (zeroInt w) h k c,mget_mvE]
 cases mlook es k<;>rfl
theorem fw_stay (M:Mem) (u:Int) (h0:0≤u) (h1:u≤18446744073709551615) (nb tb mb mt:Nat) (w:World) (h:FwV w nb tb mb mt M) (hk:kindW u≠0∨u=0) :
  Calls Tryz.prog 102 #[.int .u64 u,.pointer (some ⟨nb,0,none⟩),.pointer (some ⟨tb,0,none⟩)] w fun e w'=>e=.returned (.tuple #[.int .u64 u,.bool true])∧Ext w w':=by
 clear h
 by_cases hk0:kindW u=0
 ·have hu:u=0:=by omega
  subst hu
  have hk1:(kindW 0==0)=true:=by decide
  go_enter Tryz.func102,Tryz.ntmps102
  go_wp2_with (go_at_call 103;refine (kind_any _ h0 h1 _).mono ?_;rintro e w' ⟨rfl,hw9⟩;have hw9:=hw9.symm;subst hw9)
  go_ret2
  exact⟨rfl,Ext.refl _⟩
 ·have hk1:(kindW u==0)=false:=by simpa using hk0
  clear hk
  go_enter Tryz.func102,Tryz.ntmps102
  go_wp2_with (go_at_call 103;refine (kind_any _ h0 h1 _).mono ?_;rintro e w' ⟨rfl,hw9⟩;have hw9:=hw9.symm;subst hw9)
  go_ret2
  exact⟨rfl,Ext.refl _⟩
theorem fw_gone (M:Mem) (u:Int) (h0:0≤u) (h1:u≤18446744073709551615) (nb tb mb mt:Nat) (w:World) (h:FwV w nb tb mb mt M) (hk:kindW u=0) (hu:u≠0) (hi:inSt (ats (reachP M)) (placeW u)=false) :
  Calls Tryz.prog 102 #[.int .u64 u,.pointer (some ⟨nb,0,none⟩),.pointer (some ⟨tb,0,none⟩)] w fun e w'=>e=.returned (.tuple #[.int .u64 2,.bool false])∧Ext w w':=by
 have hk1:(kindW u==0)=true:=by simpa using hk
 have hu1:(u==0)=false:=by simpa using hu
 have hlk:∀ n,(Instr.lookup 103 (.map (some mb)) (.int .i64 (placeW u)) true).run Tryz.prog (w.drewN n)=.ok (.tuple #[.int .i64 0,.bool false]) (w.drewN n):=fun n=>by
  rw[map_look ((h.num).drewN n),numE_none hi];rfl
 have hcn:=h.n
 have hcon:constW 0=2:=by decide
 clear h hi
 go_enter Tryz.func102,Tryz.ntmps102
 go_wp2_with (go_at_call 103;refine (kind_any _ h0 h1 _).mono ?_;rintro e w' ⟨rfl,hw9⟩;have hw9:=hw9.symm;subst hw9)
 go_quiet (first
  | (go_at_call 104;exact Calls.quiet_of_same (place_any _ h0 h1 _)))
 go_wp2_with (go_at_call 39;refine (const_any 0 _).mono ?_;rintro e w' ⟨he,hw9⟩;rw[hcon] at he;subst he;have hw9:=hw9.symm;subst hw9)
 go_ret2
 exact⟨rfl,Ext.drewN_ (Ext.refl _) _⟩
theorem fw_there (M:Mem) (u:Int) (h0:0≤u) (h1:u≤18446744073709551615) (nb tb mb mt:Nat) (w:World) (h:FwV w nb tb mb mt M) (hk:kindW u=0) (hu:u≠0) (hi:inSt (ats (reachP M)) (placeW u)=true) (t:Nat) (a:Nat) (ha:placeW u=(a:Int)) (hl:lookN (toM M) a=some t) :
  Calls Tryz.prog 102 #[.int .u64 u,.pointer (some ⟨nb,0,none⟩),.pointer (some ⟨tb,0,none⟩)] w fun e w'=>e=.returned (.tuple #[.int .u64 (addrW t),.bool true])∧Ext w w':=by
 have hk1:(kindW u==0)=true:=by simpa using hk
 have hu1:(u==0)=false:=by simpa using hu
 obtain⟨i,hm⟩:=numE_some hi
 have hlk:∀ n,(Instr.lookup 103 (.map (some mb)) (.int .i64 (placeW u)) true).run Tryz.prog (w.drewN n)=.ok (.tuple #[.int .i64 i,.bool true]) (w.drewN n):=fun n=>by
  rw[map_look ((h.num).drewN n),hm];rfl
 have HT:Hid (∀ W:World,MapI W mt .i64 (mvE (toE (toM M)))→(Instr.lookup 103 (.map (some mt)) (.int .i64 (placeW u)) false).run Tryz.prog W=.ok (.int .i64 (t:Int)) W):=fun W hW=>by
  rw[map_look hW,ha,toE_look,hl];rfl
 have hcn:=h.n
 have HH:=Lib.hid h
 clear h hi hm hl ha
 go_enter Tryz.func102,Tryz.ntmps102
 go_wp2_with (go_at_call 103;refine (kind_any _ h0 h1 _).mono ?_;rintro e w' ⟨rfl,hw9⟩;have hw9:=hw9.symm;subst hw9)
 go_quiet (first
  | (go_at_call 104;exact Calls.quiet_of_same (place_any _ h0 h1 _)))
 go_wp2
 refine named_world' (fun W2 hW2=>?_)
 have hE2:Ext w W2:=by rw[hW2];exact Ext.drewN_ (Ext.refl _) _
 have hct:=(HH.out.ext hE2).t
 have hlt:∀ n,(Instr.lookup 103 (.map (some mt)) (.int .i64 (placeW u)) false).run Tryz.prog (W2.drewN n)=.ok (.int .i64 (t:Int)) (W2.drewN n):=fun n=>HT.out _ (((HH.out.ext hE2).to_).drewN n)
 have HE2:=Lib.hid hE2
 clear hW2 hE2 hlk hcn
 go_quiet (first
  | (go_at_call 104;exact Calls.quiet_of_same (place_any _ h0 h1 _))
  | (go_at_call 43;exact Calls.quiet_of_same (addr_any _ _)))
 go_wp2
 go_ret2
 exact⟨rfl,Ext.drewN_ HE2.out _⟩
theorem fw_walk (M:Mem) (hg:goodB M=true) (u:Int) (h0:0≤u) (h1:u≤18446744073709551615) (hf:fldB (startsM M) u=true) (nb tb mb mt:Nat) (w:World) (h:FwV w nb tb mb mt M) :
  Calls Tryz.prog 102 #[.int .u64 u,.pointer (some ⟨nb,0,none⟩),.pointer (some ⟨tb,0,none⟩)] w fun e w'=>e=.returned (.tuple #[.int .u64 (fwM M u).1,.bool (fwM M u).2])∧Ext w w':=by
 unfold fwM
 by_cases hk:kindW u≠0∨u=0
 ·rw[if_pos hk];exact fw_stay M u h0 h1 nb tb mb mt w h hk
 ·rw[if_neg hk]
  by_cases hi:inSt (ats (reachP M)) (placeW u)=true
  ·rw[if_pos hi]
   obtain⟨o,ho,e⟩:=inSt_obs.1 hi
   have hd:DomM M o.a:=List.mem_map_of_mem (f:=(·.a)) ho
   obtain⟨t,ht⟩:=lookN_some (l:=toM M) (a:=o.a) (by unfold toM;rw[topsW_fst];exact (ordP_mem M o.a).2 hd)
   have et:toOf M o.a=t:=by unfold toOf;rw[ht];rfl
   rw[←e,Int.toNat_natCast,et]
   exact fw_there M u h0 h1 nb tb mb mt w h (by omega) (by omega) hi t o.a e.symm ht
  ·rw[if_neg hi]
   exact fw_gone M u h0 h1 nb tb mb mt w h (by omega) (by omega) (by simpa using hi)
def turnW (f:Int→Int) (l:List Int) (k:Nat):List Int:=(l.take k).map f++l.drop k
theorem turnW_zero (f:Int→Int) (l:List Int):turnW f l 0=l:=by simp[turnW]
theorem turnW_all (f:Int→Int) (l:List Int):turnW f l l.length=l.map f:=by simp[turnW]
theorem turnW_len (f:Int→Int) (l:List Int) (k:Nat):(turnW f l k).length=l.length:=by simp[turnW];omega
theorem turnW_at (f:Int→Int) (l:List Int) (k:Nat) (hk:k<l.length):(turnW f l k).getD k 0=l.getD k 0:=by
 unfold turnW
 have hl:((l.take k).map f).length=k:=by rw[List.length_map,List.length_take];omega
 rw[List.getD_eq_getElem?_getD,List.getElem?_append_right (by omega),hl,Nat.sub_self,List.getElem?_drop,Nat.add_zero,List.getD_eq_getElem?_getD]
theorem turnW_set (f:Int→Int) (l:List Int) (k:Nat) (hk:k<l.length):(turnW f l k).set k (f (l.getD k 0))=turnW f l (k+1):=by
 unfold turnW
 have hl:((l.take k).map f).length=k:=by rw[List.length_map,List.length_take];omega
 rw[List.set_append_right _ _ (by omega),hl,Nat.sub_self,List.drop_eq_getElem_cons hk,List.set_cons_zero,List.take_add_one,List.getElem?_eq_getElem hk,List.map_append,List.getD_eq_getElem?_getD,List.getElem?_eq_getElem hk]
 simp
def idsF (M:Mem) (l:List (Int × Int)):List (Int × Int):=l.filterMap fun x=>if (fwM M x.1).2 then some ((fwM M x.1).1,x.2) else none
theorem idsF_snoc (M:Mem) (l:List (Int × Int)) (k:Nat) (hk:k<l.length):idsF M (l.take (k+1))=if (fwM M l[k].1).2 then idsF M (l.take k)++[((fwM M l[k].1).1,l[k].2)] else idsF M (l.take k):=by
 unfold idsF
 rw[List.take_add_one,List.getElem?_eq_getElem hk,List.filterMap_append]
 cases h:(fwM M l[k].1).2<;>simp[h]
theorem idsF_len (M:Mem) (l:List (Int × Int)):(idsF M l).length≤l.length:=List.length_filterMap_le _ _
section
variable {w w1:World} {B b:Nat} {M:Mem} {S:Sls}
theorem OMem.clearC (h:OMem w B b 140 M S) {g:Nat} (hg:S.C.1=some ⟨g,0,none⟩) {cur:List Value} (hc:w.heap[g]?=some (.cells cur.toArray 4 (0,0))) {n:Nat} (hn:n=M.cards.length) (hb:But g w w1) (hw:w1.heap[g]?=some (.cells (splice cur 0 (List.replicate n (.bool false))).toArray 4 (0,0))) :
  OMem w1 B b 140 {M with cards:=List.replicate n false} S:=by
 subst hn
 have hr:=own_splice h.fC hg hc 0 (List.replicate M.cards.length (.bool false)) (by simp) hw
 have e:splice (bcells M.cards) 0 (List.replicate M.cards.length (Value.bool false))=bcells (List.replicate M.cards.length false):=by
  unfold splice bcells
  have:(M.cards.map Value.bool).length=M.cards.length:=by simp
  simp
 rw[e] at hr
 exact h.rowC hg hb _ (by simp) hr
theorem maj_end (h:OMem w B b 140 M S) (a:Option Addr) (c:Nat) (l:List (Int × Int)) (ho:w.ownsRow B 140 2 (.slice a l.length c) l.length (icells l)) (hn:∀ k,(Value.slice a l.length c).ownBlock=some k→¬OwnA b S k) (t:Int) :
  OMem (((w.setCell ⟨b,9,none⟩ (.slice a l.length c)).setCell ⟨b,5,none⟩ (.int .i64 0)).setCell ⟨b,6,none⟩ (.int .i64 t)) B b 140 {M with ids:=l,top:=0,oldTop:=t} {S with I:=(a,c)} :=
 OMem.setOldTop (OMem.setTop (h.putI a c l ho hn) 0) t
theorem maj_keep (u1 u2 u3:Value):Keep (OwnA b S) w (((w.setCell ⟨b,9,none⟩ u1).setCell ⟨b,5,none⟩ u2).setCell ⟨b,6,none⟩ u3) :=
 Keep.set_ (Keep.set_ (Keep.set_ (Keep.refl _ w) (p:=⟨b,9,none⟩) (Or.inl (Or.inl rfl)) _) (p:=⟨b,5,none⟩) (Or.inl (Or.inl rfl)) _) (p:=⟨b,6,none⟩) (Or.inl (Or.inl rfl)) _
end
def majR (M:Mem):Nat→Mem
 | 0=>{M with W:=majW M}
 | 1=>{M with W:=majW M,roots:=M.roots.map (fw1 M)}
 | _+2=>{M with W:=majW M,roots:=M.roots.map (fw1 M),weak:=M.weak.map (fw1 M)}
theorem Full.okR {M:Mem} (h:Full M):(majR M 2).Ok :=
 {h.ok with W:=h.okN.W,lenW:=h.okN.lenW,roots:=h.okN.roots,lenR:=h.okN.lenR,weak:=h.okN.weak,lenK:=h.okN.lenK}
theorem topAt_end (M:Mem):topAt M (ordP M).length=endM M:=by
 unfold topAt endM
 rw[List.take_length]
theorem cards_few {M:Mem} (h:Shp M):0<M.cards.length∧M.cards.length≤200000:=by
 have c1:=h.c1
 have c2:=h.c2
 have o1:=h.o1
 have o2:=h.o2
 have cl:=h.cl
 have hclen:0<M.cards.length:=by
  have:=h.card (2*M.half) (Int.le_refl _) (by omega)
  omega
 have h2:(M.old+M.card-1)/M.card≤(M.old+M.card-1):=by
  rcases Int.lt_or_le (M.old+M.card-1) 0 with q|q
  ·omega
  ·exact Int.ediv_le_self _ q
 exact⟨hclen,by omega⟩
theorem copy_over {P:Program} {W:World} (dT ty elem:TypeId) (hu:P.underlying dT=some (.slice elem)) (hsz:(P.info? elem).map (·.size)=some 1) {B:Nat} {a:Option Addr} {c:Nat} {xs:List Value}
  (h:W.ownsRow B elem 1 (.slice a xs.length c) xs.length xs) {g:Nat} (ha:a=some ⟨g,0,none⟩) (A1 A2:Option Addr) (C1 C2 d nd:Nat) (src:List Value) (hA1:A1=some ⟨g,d,none⟩) (p2:Addr) (hA2:A2=some p2)
  (hrd:∀ k u,src[k]?=some u→W.cell? (p2.add k)=some u) (h1:∀ v∈src,v.oneCell'=true) (h0:0<src.length) (hnd:src.length≤nd) (hd:d+src.length≤xs.length) :
  ∃ w',(Builtin.copy_ #[dT,dT] ty #[.slice A1 nd C1,.slice A2 src.length C2]).run P W=.ok (goInt src.length) w'∧But g W w'∧w'.ownsRow B elem 1 (.slice a xs.length c) xs.length (splice xs d src):=by
 obtain⟨g',hg',-,-,-,hc,cur,hh,hlen,htake⟩:=own_block h (by omega)
 rw[ha] at hg'
 injection hg' with hg'
 injection hg' with hg'
 subst hg'
 have hcl:xs.length≤cur.length:=by omega
 obtain⟨w',hr,hg2,hb⟩:=run_copy_but (P:=P) (w:=W) dT dT ty elem hu hsz A1 A2 nd C1 src.length C2 g d cur elem hh src (Nat.min_eq_left hnd).symm
  (fun _=>⟨hA1,p2,hA2,hrd⟩) (by omega) h1
 exact⟨w',hr,hb,own_splice h ha hh d src hd hg2⟩
end Go.Proofs.YtelhoppfidibiaaGreatDoor
