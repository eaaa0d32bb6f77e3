/- The walk of lex.Quote. -/
import Derived.Test.YtelhoppfidibiaaGreatDoorJTa36
import Derived.Test.YtelhoppfidibiaaGreatDoorJTa01
import Derived.Deep.Cut
import Derived.Lib.UnsafeStr
import Derived.Lib.OthersKept
import Derived.Test.YtelhoppfidibiaaGreatDoorJTa37
import Derived.Test.YtelhoppfidibiaaGreatDoorJTa04
import Derived.Test.YtelhoppfidibiaaGreatDoorJTa03
import Derived.Lib.LazyBuf
import Derived.Lib.AppendStr
import Derived.Deep.LoopGhost
import Derived.Test.YtelhoppfidibiaaGreatDoorJTa22
import Derived.Test.YtelhoppfidibiaaGreatDoorJTa10
import Derived.Test.YtelhoppfidibiaaGreatDoorJTa27
import Derived.Deep.RegionHeld3
import Derived.Deep.CutRange
import Derived.Test.YtelhoppfidibiaaGreatDoorJTa32
import Derived.Test.YtelhoppfidibiaaGreatDoorJTa35
import Derived.Test.YtelhoppfidibiaaGreatDoorJTa33
import Derived.Test.YtelhoppfidibiaaGreatDoorJTa18
import Derived.Test.YtelhoppfidibiaaGreatDoorJTa24
set_option linter.unusedSimpArgs false
set_option linter.unusedVariables false
set_option maxHeartbeats 16000000
set_option maxRecDepth 100000
namespace Go.Proofs.YtelhoppfidibiaaGreatDoor
open Go.RowKit
theorem undU8:Tryz.prog.underlying 107=some (.slice 5):=by kernel_rfl
def bcs (l:List UInt8):List Value:=l.map fun c=>Value.int .u8 (c.toNat:Int)
theorem bcs_app (a b:List UInt8):bcs (a++b)=bcs a++bcs b:=by simp[bcs]
theorem bcs_len (l:List UInt8):(bcs l).length=l.length:=by simp[bcs]
theorem bcs_one (l:List UInt8):∀ u∈bcs l,u.oneCell'=true:=by
 intro u hu
 obtain⟨x,_,rfl⟩:=List.mem_map.1 hu
 rfl
theorem own_form {w:World} {B:Nat} {e:TypeId} {size:Nat} {v:Value} {n:Nat} {xs:List Value} (h:w.ownsRow B e size v n xs):∃ a c,v=.slice a n c:=by
 rcases h.2 with⟨rfl,rfl⟩|⟨g,cap,cur,rfl,_⟩
 ·exact⟨_,_,rfl⟩
 ·exact⟨_,_,rfl⟩
def nums8 (l:List UInt8):List Int:=l.map fun c=>(c.toNat:Int)
theorem nums8_len (l:List UInt8):(nums8 l).length=l.length:=by simp[nums8]
theorem strOf_bytes (l:List UInt8):strOfNums (nums8 l)=⟨l.toArray⟩:=by
 unfold strOfNums nums8
 rw[List.map_map]
 congr 2
 conv=>rhs;rw[←List.map_id l]
 apply List.map_congr_left
 intro x _
 simp
theorem own_bytes {w:World} {B:Nat} {a:Option Addr} {c n:Nat} {l:List UInt8} (h:w.ownsRow B 5 1 (.slice a n c) n (bcs l)) (hn:0<n) :
  n=l.length∧∃ g,a=some ⟨g,0,none⟩∧∀ i,i<n→w.cell? ⟨g,0+i,none⟩=some (.int .u8 ((nums8 l).getD i 0)):=by
 have h1:=h.1
 rw[bcs_len] at h1
 rcases h.2 with⟨_,h2⟩|⟨g,cap,cur,hv,_,hg,_,_,_,ht⟩
 ·omega
 ·injection hv with h3 _ h5
  subst h3
  refine⟨by omega,g,rfl,fun i hi=>?_⟩
  rw[Nat.zero_add,cell_of_row w g i cur _ _ hg]
  have:(bcs l)[i]?=some (.int .u8 ((nums8 l).getD i 0)):=by
   have hil:i<l.length:=by omega
   simp[bcs,nums8,List.getD_eq_getElem?_getD,hil]
  rw[←ht,List.getElem?_take] at this
  split at this
  ·simpa using this
  ·cases this
theorem rsl_cells (w:World) (e:TypeId) (a:Array Value):RSl (w.alloc (.cells a e)) (some ⟨w.heap.size,0,none⟩) a.toList:=fun j u hu=>by
 refine⟨_,_,rfl,?_⟩
 rw[Nat.zero_add,cell_of_row _ _ j a e (0,0) (heap_alloc_new w _)]
 simpa using hu
theorem and8:∀ c:Fin 256,bits BinOp.and IntKind.u8 (c.val:Int) 15=(c.val:Int)%16:=by decide +kernel
abbrev hexLit:ByteArray:=⟨#[48,49,50,51,52,53,54,55,56,57,97,98,99,100,101,102]⟩
theorem hex_byte:∀ v:Fin 16,(hexLit[v.val]'(by have:=v.isLt;exact this)).toNat=(hexDigP v.val).toNat:=by decide +kernel
theorem hex_at (v:Nat) (hv:v<16) (W:World):(Instr.index 9 (.string hexLit) (.int .u8 (v:Int))).run Tryz.prog W=.ok (.int .u8 ((hexDigP v).toNat:Int)) W:=by
 rw[←hex_byte ⟨v,hv⟩]
 rw[run_index_string (P:=Tryz.prog) W 9 hexLit .u8 (v:Int) (Tryz.underlying9),dif_pos ⟨by omega,by show (v:Int)<16;omega⟩]
 simp
theorem grown_extB {w w1 w2:World} {r:Option Nat} (h:Ext w w1) (hg:w1.grownBy w2 r) (hr:∀ k,r=some k→w.heap.size≤k):Ext w w2:=Below.grown h hg h.size hr
theorem own_extB {w w':World} {B:Nat} {e:TypeId} {size:Nat} {v:Value} {n:Nat} {xs:List Value} (h:w.ownsRow B e size v n xs) (hx:Ext w w'):w'.ownsRow B e size v n xs:=by
 obtain⟨h1,h2⟩:=h
 refine⟨h1,?_⟩
 rcases h2 with h2|⟨g,cap,cur,hv,hg,hh,r⟩
 ·exact Or.inl h2
 ·exact Or.inr ⟨g,cap,cur,hv,hg,by rw[Below.block hx g (lt_of_block hh)];exact hh,r⟩
theorem own_made1 (W:World) (e:TypeId) (x:Value):(W.alloc (.cells #[x] e)).ownsRow W.heap.size e 1 (.slice (some ⟨W.heap.size,0,none⟩) 1 1) 1 [x] :=
 ⟨by simp,Or.inr ⟨W.heap.size,1,#[x],rfl,Nat.le_refl _,heap_alloc_new W _,Nat.le_refl _,by unfold maxLen;omega,by simp,by simp⟩⟩
theorem quote_any (s:ByteArray) (w:World) (hs:s.size≤17592186044416) :
  Calls Tryz.prog 60 #[.string s] w fun e w'=>e=.returned (.string (quotedP s))∧Ext w w':=by
 obtain⟨i0,hii,hz0,hz1,hz2⟩:=info_parts infoU8
 have hdl:s.data.toList.length=s.size:=by simp
 go_enter Tryz.func60,Tryz.ntmps60
 go_upto_region 3 with fail
 go_loopg [9,3] (s.size) (fun r i v wr=>∃ (k:Nat) (a:Option Addr) (n cp:Nat) (L:List UInt8),k+r=s.size∧i=.int .i64 (k:Int)∧v=.slice a n cp∧Hid (wr.ownsRow w.heap.size 5 1 (.slice a n cp) n (bcs L))∧Hid (L=34::quotesP (s.data.toList.take k))∧(1≤n∧n≤4*k+1)∧Hid (Ext w wr))
 case atStart=>exact⟨0,_,1,1,[34],by omega,rfl,rfl,own_made1 w _ _,rfl,by omega,(Ext.refl w).alloc_ _⟩
 case round =>
  obtain⟨k,a,n,cp,L,hk,rfl,rfl,hO,hL,⟨hn1,hn2⟩,hE⟩:=hrel
  have hsz:Hid (w.heap.size≤wr.heap.size):=hE.out.size
  cases gk with
  | zero =>
   obtain rfl:k=s.size:=by omega
   have hltz:¬((s.size:Nat):Int)<(s.size:Int):=by omega
   have HK:=Lib.hid hk
   have hLf:Hid (L=34::quotesP s.data.toList):=by
    have:=hL.out
    rw[←hdl,List.take_length] at this
    exact this
   clear hk
   go_wp2_with (at_builtin;refine wpList_append_src rfl _ _ 107 rfl w.heap.size 5 i0 (.int .u8 0) 1 1 undU8 hii hz0 hz1 hz2 rfl (by decide) (.slice a n cp) n (bcs L) rfl (own_extB hO.out ((Ext.refl _).alloc_ _)) (some ⟨wr.heap.size,0,none⟩) 1 1 (bcs [34]) rfl (fun h=>by cases h) (Nat.le_refl _) rfl (rsl_cells wr _ _) (bcs_one _) (by unfold maxLen;omega) (by omega) (by have:=hsz.out;simp;omega) ?_;intro a2 c2 w2 hO2 hG2 hv2;have HX2:Hid (Ext w w2):=grown_extB (hE.out.alloc_ _) hG2 (fun g hg=>(hO.out.lt g hg).1);rw[←bcs_app] at hO2;obtain⟨e1,g,e2,e3⟩:=own_bytes hO2 (by omega);subst e2;have e4:(nums8 (L++[34])).length=n+1:=(nums8_len _).trans e1.symm;have hconv:=run_convert_bytes_arg (P:=Tryz.prog) w2 107 5 undU8 (by kernel_rfl) g 0 (n+1) c2 _ e4 e3 9 (by kernel_rfl);clear hO2 hG2 hv2 e3 e1 e4)
   go_ret
   refine⟨?_,HX2.out⟩
   show Ending.returned (.string (strOfNums (nums8 (L++[34]))))=_
   rw[strOf_bytes,hLf.out]
   rfl
  | succ r =>
   have hlt:k<s.size:=by omega
   have hltz:(k:Int)<(s.size:Int):=by omega
   have hc:s.data.toList[k]'(by rw[hdl];exact hlt)=s[k]:=by simp;rfl
   have hsn:=quotesP_snoc s.data.toList k (by rw[hdl];exact hlt)
   rw[hc] at hsn
   have hb:=s[k].toNat_lt
   have HSN:=Lib.hid hsn
   have HK:=Lib.hid hk
   have hR2:Hid (∀ (t:List UInt8) , t=quote1 s[k]→L++t=34::quotesP (s.data.toList.take (k+1))):=fun t ht=>by rw[hL.out,ht,HSN.out];rfl
   clear hsn hk hc
   by_cases c10:s[k].toNat=10
   ·have z10:((s[k].toNat:Int)==10)=true:=by rw[c10];rfl
    have hR3:=Lib.hid (hR2.out [92,110] (by unfold quote1;rw[if_pos c10]))
    have C10:=Lib.hid c10
    clear c10
    go_wp2_with (at_builtin;refine Lib.wpList_append_own_string _ rfl _ _ 107 9 rfl w.heap.size 5 i0 undU8 (by kernel_rfl) hii hz0 hz1 hz2 (.slice a n cp) n (bcs L) rfl hO.out ⟨#[92,110]⟩ rfl (by unfold maxLen;show n+2≤_;omega) (by show n+2≤_;omega) hsz.out ?_;intro v2 w2 hO2 hG2 hv2;obtain⟨a2,c2,e2⟩:=own_form hO2;subst e2;have HX2:Hid (Ext w w2):=grown_extB hE.out hG2 (fun g hg=>(hO.out.lt g hg).1);have e3:Lib.strCells ⟨#[92,110]⟩=bcs [92,110]:=(by rw[Lib.strCells_eq];rfl);rw[e3,←bcs_app] at hO2;have HO2:=Lib.hid hO2;clear hO2 hG2 hv2 e3)
    go_roundg r
    case measure=>omega
    case rel=>exact⟨k+1,a2,n+2,c2,_,by have:=HK.out;omega,by go_num,rfl,HO2.out,hR3.out,by omega,HX2.out⟩
   have z10:((s[k].toNat:Int)==10)=false:=by simp;omega
   by_cases c34:s[k].toNat=34∨s[k].toNat=92
   ·have hR3:=Lib.hid (hR2.out [92,s[k]] (by unfold quote1;rw[if_neg c10,if_pos c34]))
    rcases c34 with c34|c34
    ·have z34:((s[k].toNat:Int)==34)=true:=by rw[c34];rfl
     have C34:=Lib.hid c34
     clear c34 c10
     go_wp2_with (at_builtin;refine wpList_append_src rfl _ _ 107 rfl w.heap.size 5 i0 (.int .u8 0) 1 1 undU8 hii hz0 hz1 hz2 rfl (by decide) (.slice a n cp) n (bcs L) rfl (own_extB hO.out ((Ext.refl _).alloc_ _)) (some ⟨wr.heap.size,0,none⟩) 2 2 (bcs [92,s[k]]) rfl (fun h=>by cases h) (Nat.le_refl _) rfl (rsl_cells wr _ _) (bcs_one _) (by unfold maxLen;omega) (by omega) (by have:=hsz.out;simp;omega) ?_;intro a2 c2 w2 hO2 hG2 hv2;have HX2:Hid (Ext w w2):=grown_extB (hE.out.alloc_ _) hG2 (fun g hg=>(hO.out.lt g hg).1);rw[←bcs_app] at hO2;have HO2:=Lib.hid hO2;clear hO2 hG2 hv2)
     go_roundg r
     case measure=>omega
     case rel=>exact⟨k+1,a2,n+2,c2,_,by have:=HK.out;omega,by go_num,rfl,HO2.out,hR3.out,by omega,HX2.out⟩
    ·have z34:((s[k].toNat:Int)==34)=false:=by rw[c34];rfl
     have z92:((s[k].toNat:Int)==92)=true:=by rw[c34];rfl
     have C34:=Lib.hid c34
     clear c34 c10
     go_wp2_with (at_builtin;refine wpList_append_src rfl _ _ 107 rfl w.heap.size 5 i0 (.int .u8 0) 1 1 undU8 hii hz0 hz1 hz2 rfl (by decide) (.slice a n cp) n (bcs L) rfl (own_extB hO.out ((Ext.refl _).alloc_ _)) (some ⟨wr.heap.size,0,none⟩) 2 2 (bcs [92,s[k]]) rfl (fun h=>by cases h) (Nat.le_refl _) rfl (rsl_cells wr _ _) (bcs_one _) (by unfold maxLen;omega) (by omega) (by have:=hsz.out;simp;omega) ?_;intro a2 c2 w2 hO2 hG2 hv2;have HX2:Hid (Ext w w2):=grown_extB (hE.out.alloc_ _) hG2 (fun g hg=>(hO.out.lt g hg).1);rw[←bcs_app] at hO2;have HO2:=Lib.hid hO2;clear hO2 hG2 hv2)
     go_roundg r
     case measure=>omega
     case rel=>exact⟨k+1,a2,n+2,c2,_,by have:=HK.out;omega,by go_num,rfl,HO2.out,hR3.out,by omega,HX2.out⟩
   have z34:((s[k].toNat:Int)==34)=false:=by simp;omega
   have z92:((s[k].toNat:Int)==92)=false:=by simp;omega
   by_cases c32:s[k].toNat<32∨126<s[k].toNat
   ·have hR3:=Lib.hid (hR2.out [92,120,hexDigP (s[k].toNat/16),hexDigP (s[k].toNat%16)] (by unfold quote1;rw[if_neg c10,if_neg c34,if_pos c32]))
    have hsm:s[k].toNat<256:=hb
    have b8:bits BinOp.and IntKind.u8 (s[k].toNat:Int) 15=(s[k].toNat:Int)%16:=and8 ⟨s[k].toNat,hsm⟩
    have i1:∀ W:World,(Instr.index 9 (.string ⟨#[48,49,50,51,52,53,54,55,56,57,97,98,99,100,101,102]⟩) (.int .u8 ((s[k].toNat:Int)/16))).run Tryz.prog W=.ok (.int .u8 ((hexDigP (s[k].toNat/16)).toNat:Int)) W:=fun W=>by
     have:=hex_at (s[k].toNat/16) (by omega) W
     rw[show ((s[k].toNat/16:Nat):Int)=(s[k].toNat:Int)/16 by omega] at this
     exact this
    have i2:∀ W:World,(Instr.index 9 (.string ⟨#[48,49,50,51,52,53,54,55,56,57,97,98,99,100,101,102]⟩) (.int .u8 ((s[k].toNat:Int)%16))).run Tryz.prog W=.ok (.int .u8 ((hexDigP (s[k].toNat%16)).toNat:Int)) W:=fun W=>by
     have:=hex_at (s[k].toNat%16) (by omega) W
     rw[show ((s[k].toNat%16:Nat):Int)=(s[k].toNat:Int)%16 by omega] at this
     exact this
    have I1:=Lib.hid i1
    have I2:=Lib.hid i2
    generalize hexDigP (s[k].toNat/16)=h1 at *
    generalize hexDigP (s[k].toNat%16)=h2 at *
    clear c10 c34 i1 i2
    by_cases c33:s[k].toNat<32
    ·have z32:decide ((s[k].toNat:Int)<32)=true:=decide_eq_true (by omega)
     clear c32 c33
     go_upto_region 12 with fail
     refine wp_region_held_drew (S:=fun W=>True) (by kernel_rfl) ?_ (fun hHeld=>?_)
     ·trivial
     refine tk 0 ⟨some 42,_,_,_,_,_⟩ ?_ rfl ?_ ?_
     rotate_left
     ·(intro w hSw;(try dsimp only at hSw);go_simp;try with_reducible rfl)
     try simp only[tkS]
     refine tk 1 ⟨some 43,_,_,_,_,_⟩ ?_ rfl ?_ ?_
     rotate_left
     ·(intro w hSw;(try dsimp only at hSw);go_simp;try with_reducible rfl)
     try simp only[tkS]
     refine tk 2 ⟨some 44,_,_,_,_,_⟩ ?_ rfl ?_ ?_
     rotate_left
     ·(intro w hSw;(try dsimp only at hSw);go_simp;try with_reducible rfl)
     try simp only[tkS]
     refine tk 3 ⟨some 45,_,_,_,_,_⟩ ?_ rfl ?_ ?_
     rotate_left
     ·(intro w hSw;have hlk:=I1.out w;go_simp;try with_reducible rfl)
     try simp only[tkS]
     refine tk 4 ⟨some 46,_,_,_,_,_⟩ ?_ rfl ?_ ?_
     rotate_left
     ·(intro w hSw;(try dsimp only at hSw);go_simp;try with_reducible rfl)
     try simp only[tkS]
     refine tk 5 ⟨some 47,_,_,_,_,_⟩ ?_ rfl ?_ ?_
     rotate_left
     ·(intro w hSw;(try dsimp only at hSw);go_simp;try with_reducible rfl)
     try simp only[tkS]
     try rw[b8]
     refine tk 6 ⟨some 48,_,_,_,_,_⟩ ?_ rfl ?_ ?_
     rotate_left
     ·(intro w hSw;have hlk:=I2.out w;go_simp;try with_reducible rfl)
     try simp only[tkS]
     refine wpAnyH_ready (rs:=[7]) (by kernel_rfl) (by simp) ?_
     refine AllReadyH.cons (o:=⟨some 49,_,_,_,_,_⟩) rfl (fun K hK=>?_) AllReadyH.nil
     go_simp
     skip
     refine hK.out _ _ ?_ (fun hHeld=>?_)
     ·(try dsimp only);first|done|trivial
     clear hK K
     try simp only[tkS]
     refine wpAnyH_ready (rs:=[8]) (by kernel_rfl) (by simp) ?_
     refine AllReadyH.cons (o:=⟨some 50,_,_,_,_,_⟩) rfl (fun K hK=>?_) AllReadyH.nil
     refine step_append_src (by rfl) _ _ 107 (by rfl) w.heap.size 5 i0 (.int .u8 0) 1 1 undU8 hii hz0 hz1 hz2 (by rfl) (by decide) (.slice a n cp) n (bcs L) (by rfl) (own_extB hO.out ((Ext.refl wr).drew_.alloc_ _)) (some ⟨wr.heap.size,0,none⟩) 4 4 (bcs [92,120,h1,h2]) (by rfl) (fun h=>by cases h) (Nat.le_refl _) (by rfl) (rsl_cells wr.drew _ _) (bcs_one _) (by unfold maxLen;omega) (by omega) (by have h1:=hsz.out;have h2:wr.drew.heap.size=wr.heap.size:=rfl;simp;omega) ?_
     intro a2 c2 w2 hO2 hG2 hv2
     have HX2:Hid (Ext w w2):=grown_extB (hE.out.drew_.alloc_ _) hG2 (fun g hg=>(hO.out.lt g hg).1)
     rw[←bcs_app] at hO2
     have HO2:=Lib.hid hO2
     clear hO2 hG2 hv2
     refine hK.out _ _ ?_ (fun hHeld=>?_)
     ·trivial
     clear hK K
     try simp only[tkS]
     refine tk 9 ⟨some 3,_,_,_,_,_⟩ ?_ rfl ?_ ?_
     rotate_left
     ·(intro w hSw;(try dsimp only at hSw);go_simp;try with_reducible rfl)
     try simp only[tkS]
     refine wpAnyH_done (by kernel_rfl) ?_ _
     clear hHeld
     go_wp2
     go_roundg r
     case measure=>omega
     case rel=>exact⟨k+1,a2,n+4,c2,_,by have:=HK.out;omega,by go_num,rfl,HO2.out,hR3.out,by omega,HX2.out⟩
    ·have z32:decide ((s[k].toNat:Int)<32)=false:=decide_eq_false (by omega)
     have z126:decide (126<(s[k].toNat:Int))=true:=decide_eq_true (by omega)
     clear c32 c33
     go_upto_region 12 with fail
     refine wp_region_held_drew (S:=fun W=>True) (by kernel_rfl) ?_ (fun hHeld=>?_)
     ·trivial
     refine tk 0 ⟨some 42,_,_,_,_,_⟩ ?_ rfl ?_ ?_
     rotate_left
     ·(intro w hSw;(try dsimp only at hSw);go_simp;try with_reducible rfl)
     try simp only[tkS]
     refine tk 1 ⟨some 43,_,_,_,_,_⟩ ?_ rfl ?_ ?_
     rotate_left
     ·(intro w hSw;(try dsimp only at hSw);go_simp;try with_reducible rfl)
     try simp only[tkS]
     refine tk 2 ⟨some 44,_,_,_,_,_⟩ ?_ rfl ?_ ?_
     rotate_left
     ·(intro w hSw;(try dsimp only at hSw);go_simp;try with_reducible rfl)
     try simp only[tkS]
     refine tk 3 ⟨some 45,_,_,_,_,_⟩ ?_ rfl ?_ ?_
     rotate_left
     ·(intro w hSw;have hlk:=I1.out w;go_simp;try with_reducible rfl)
     try simp only[tkS]
     refine tk 4 ⟨some 46,_,_,_,_,_⟩ ?_ rfl ?_ ?_
     rotate_left
     ·(intro w hSw;(try dsimp only at hSw);go_simp;try with_reducible rfl)
     try simp only[tkS]
     refine tk 5 ⟨some 47,_,_,_,_,_⟩ ?_ rfl ?_ ?_
     rotate_left
     ·(intro w hSw;(try dsimp only at hSw);go_simp;try with_reducible rfl)
     try simp only[tkS]
     try rw[b8]
     refine tk 6 ⟨some 48,_,_,_,_,_⟩ ?_ rfl ?_ ?_
     rotate_left
     ·(intro w hSw;have hlk:=I2.out w;go_simp;try with_reducible rfl)
     try simp only[tkS]
     refine wpAnyH_ready (rs:=[7]) (by kernel_rfl) (by simp) ?_
     refine AllReadyH.cons (o:=⟨some 49,_,_,_,_,_⟩) rfl (fun K hK=>?_) AllReadyH.nil
     go_simp
     skip
     refine hK.out _ _ ?_ (fun hHeld=>?_)
     ·(try dsimp only);first|done|trivial
     clear hK K
     try simp only[tkS]
     refine wpAnyH_ready (rs:=[8]) (by kernel_rfl) (by simp) ?_
     refine AllReadyH.cons (o:=⟨some 50,_,_,_,_,_⟩) rfl (fun K hK=>?_) AllReadyH.nil
     refine step_append_src (by rfl) _ _ 107 (by rfl) w.heap.size 5 i0 (.int .u8 0) 1 1 undU8 hii hz0 hz1 hz2 (by rfl) (by decide) (.slice a n cp) n (bcs L) (by rfl) (own_extB hO.out ((Ext.refl wr).drew_.alloc_ _)) (some ⟨wr.heap.size,0,none⟩) 4 4 (bcs [92,120,h1,h2]) (by rfl) (fun h=>by cases h) (Nat.le_refl _) (by rfl) (rsl_cells wr.drew _ _) (bcs_one _) (by unfold maxLen;omega) (by omega) (by have h1:=hsz.out;have h2:wr.drew.heap.size=wr.heap.size:=rfl;simp;omega) ?_
     intro a2 c2 w2 hO2 hG2 hv2
     have HX2:Hid (Ext w w2):=grown_extB (hE.out.drew_.alloc_ _) hG2 (fun g hg=>(hO.out.lt g hg).1)
     rw[←bcs_app] at hO2
     have HO2:=Lib.hid hO2
     clear hO2 hG2 hv2
     refine hK.out _ _ ?_ (fun hHeld=>?_)
     ·trivial
     clear hK K
     try simp only[tkS]
     refine tk 9 ⟨some 3,_,_,_,_,_⟩ ?_ rfl ?_ ?_
     rotate_left
     ·(intro w hSw;(try dsimp only at hSw);go_simp;try with_reducible rfl)
     try simp only[tkS]
     refine wpAnyH_done (by kernel_rfl) ?_ _
     clear hHeld
     go_wp2
     go_roundg r
     case measure=>omega
     case rel=>exact⟨k+1,a2,n+4,c2,_,by have:=HK.out;omega,by go_num,rfl,HO2.out,hR3.out,by omega,HX2.out⟩
   ·have hR3:=Lib.hid (hR2.out [s[k]] (by unfold quote1;rw[if_neg c10,if_neg c34,if_neg c32]))
    have z32:decide ((s[k].toNat:Int)<32)=false:=decide_eq_false (by omega)
    have z126:decide (126<(s[k].toNat:Int))=false:=decide_eq_false (by omega)
    clear c10 c34 c32
    go_wp2_with (at_builtin;refine wpList_append_src rfl _ _ 107 rfl w.heap.size 5 i0 (.int .u8 0) 1 1 undU8 hii hz0 hz1 hz2 rfl (by decide) (.slice a n cp) n (bcs L) rfl (own_extB hO.out ((Ext.refl _).alloc_ _)) (some ⟨wr.heap.size,0,none⟩) 1 1 (bcs [s[k]]) rfl (fun h=>by cases h) (Nat.le_refl _) rfl (rsl_cells wr _ _) (bcs_one _) (by unfold maxLen;omega) (by omega) (by have:=hsz.out;simp;omega) ?_;intro a2 c2 w2 hO2 hG2 hv2;have HX2:Hid (Ext w w2):=grown_extB (hE.out.alloc_ _) hG2 (fun g hg=>(hO.out.lt g hg).1);rw[←bcs_app] at hO2;have HO2:=Lib.hid hO2;clear hO2 hG2 hv2)
    go_roundg r
    case measure=>omega
    case rel=>exact⟨k+1,a2,n+1,c2,_,by have:=HK.out;omega,by go_num,rfl,HO2.out,hR3.out,by omega,HX2.out⟩
theorem bld_step {bl:Nat} {w2 wr w4 w5:World} (hbl:bl=w2.heap.size) (hE:Ext w2 wr) (hx:Ext wr w4) (hb:Below bl w4 w5):Ext w2 w5:=by subst hbl;exact (hE.trans_ hx).trans hb
theorem Ext.heap_ {w w':World} (h:Ext w w') {k:Nat} {o:Obj} (hk:w.heap[k]?=some o):w'.heap[k]?=some o:=by
 obtain⟨q1,q2,q3,q4,q5⟩:=h
 have hl:k<w.heap.size:=by
  rcases Nat.lt_or_ge k w.heap.size with g|g
  ·exact g
  ·simp[Array.getElem?_eq_none g] at hk
 rw[q5 k hl];exact hk
theorem lit_size (l:Array UInt8):(⟨l⟩:ByteArray).size=l.size:=rfl
theorem rootS_size (l:List Ob) (out:ByteArray) (u:Int):(rootS l out u).size≤out.size+40:=by
 have:=toldS_size u l
 unfold rootS
 simp only[ByteArray.size_append,lit_size]
 simp;omega
theorem fieldS_size (l:List Ob) (kind:Int) (out:ByteArray) (u:Int):(fieldS l kind out u).size≤out.size+40:=by
 have:=toldS_size u l
 have:=hexS_size u
 unfold fieldS
 split
 ·simp only[ByteArray.size_append,lit_size]
  simp;omega
 ·simp only[ByteArray.size_append,lit_size]
  simp;omega
theorem headS_size (i:Nat) (kind:Int) (out:ByteArray):(headS i kind out).size≤out.size+50:=by
 have:=decS_size (i:Int)
 have:=decS_size kind
 unfold headS
 simp only[ByteArray.size_append,show ∀ l:Array UInt8,(⟨l⟩:ByteArray).size=l.size from fun _=>rfl]
 simp;omega
theorem foldl_snoc {α:Type} (g:ByteArray→α→ByteArray) (out:ByteArray) (us:List α) (k:Nat) (hk:k<us.length):(us.take (k+1)).foldl g out=g ((us.take k).foldl g out) us[k]:=by
 rw[List.take_add_one,List.getElem?_eq_getElem hk,List.foldl_append];rfl
def ShowPost (w:World) (M:Mem) (e:Ending) (w':World):Prop:=e=.returned (.string (showS M))∧Ext w w'
theorem show2_walk (hb b:Nat) (M:Mem) (S:Sls) (w:World) (hM:RMem w b 0 M S) (hp:w.cell? ⟨hb,0,none⟩=some (.pointer (some ⟨b,0,none⟩))) (hg:goodB M=true) (hF:Few M) (hT:Tabs w) (hnr:∀ x∈reachP M,RawOk M.W x) :
  Calls Tryz.prog 19 #[.pointer (some ⟨hb,0,none⟩)] w (ShowPost w M):=by
 obtain⟨hs,hob,hro,hwk,hfo,hid⟩:=good_parts hg
 have hlr:=(reachP_gath hg).len
 have hlo:=objs_len hs
 have hlM:=len_small hs
 have hrl:(reachP M).length≤196608:=by omega
 have HRO:Hid (∀ k,k<M.roots.length→fldB (startsM M) (M.roots.getD k 0)=true):=fun k hk=>fieldsB_at hro hk
 have HRB:Hid (∀ k,k<M.roots.length→0≤M.roots.getD k 0∧M.roots.getD k 0≤18446744073709551615):=fun k hk=>getD_in (P:=fun x=>0≤x∧x≤18446744073709551615) hM.ok.roots hk
 have HMEM:Hid (∀ x∈reachP M,x∈objsAll M):=fun x hx=>(reachP_gath hg).mem x hx
 have hRl:=hF.R
 have HM:=Lib.hid hM
 have HG:=Lib.hid hg
 have HS:=Lib.hid hs
 have HFO:=Lib.hid hfo
 have HP:=Lib.hid hp
 have HNR:=Lib.hid hnr
 have HTB:=Lib.hid hT
 have hbz:=hM.lt
 have q00:=hp
 clear hM hg hs hob hro hwk hfo hid hF hlr hlo hlM hT hp hnr
 go_enter Tryz.func19,Tryz.ntmps19
 go_upto_region 3 with (go_at_call 53;refine (mReach_walk b 0 M S _ HM.out HG.out).mono ?_;rintro e w2 ⟨ta,tc,mb,rfl,hT,hMp,hB2,hno,hq⟩;have HX2:=Lib.hid hq;have HT:=Lib.hid hT;have HMP:=Lib.hid hMp;clear hq hT hMp hB2 hno)
 obtain⟨bl,hbl⟩:∃ bl,bl=w2.heap.size:=⟨_,rfl⟩
 refine named_world' (fun W3 hW3=>?_)
 have hB3:Bld bl bl ⟨#[]⟩ W3:=by rw[hW3,hbl];exact bld_new w2
 have hX3:Ext w2 W3:=by rw[hW3];exact (Ext.refl _).alloc_ _
 rw[←hbl]
 have HBL:=Lib.hid hbl
 have HB3:=Lib.hid hB3
 have HX3:=Lib.hid hX3
 have hM3:=HM.out.ext (HX2.out.trans_ hX3)
 have q03:=(HX2.out.trans_ hX3).cell_ HP.out
 have r3:=hM3.roots
 have hbz3:=hM3.lt
 simp only[Nat.zero_add] at r3
 clear hW3 hX3 hB3 hbl hM3 q00
 obtain⟨l,hl⟩:∃ l,l=reachP M:=⟨_,rfl⟩
 rw[←hl] at HMEM hrl ⊢
 have HLL:=Lib.hid hl
 clear hl
 obtain⟨sr,hsr⟩:∃ sr,S.R.1=sr:=⟨_,rfl⟩
 rw[hsr] at r3
 have HSR:=Lib.hid hsr
 clear hsr
 have z5:(⟨#[114,111,111,116,32]⟩:ByteArray).size=5:=rfl
 have z1':(⟨#[32]⟩:ByteArray).size=1:=rfl
 have z1:(⟨#[10]⟩:ByteArray).size=1:=rfl
 go_wp2
 go_loopg [30] (M.roots.length) (fun r i wr=>∃ (k:Nat) (s:ByteArray),k+r=M.roots.length∧i=.int .i64 (k:Int)∧s.size≤40*k∧Hid (s=rootsS l (M.roots.take k) ⟨#[]⟩)∧Hid (Bld bl bl s wr)∧Hid (Ext w2 wr))
 case atStart=>exact⟨0,_,by omega,rfl,Nat.le_refl _,rfl,HB3.out,HX3.out⟩
 case round =>
  obtain⟨k,s,hk,rfl,hsz,hs,hB,hE⟩:=hrel
  cases gk with
  | succ r =>
   have hlt:k<M.roots.length:=by omega
   have hltz:(k:Int)<(M.roots.length:Int):=by omega
   have hMr:=HM.out.ext (HX2.out.trans_ hE.out)
   obtain⟨rb,ro,hRa,hc⟩:=hMr.rR k _ (wcells_at M.roots k hlt)
   obtain⟨hu2,hu3⟩:=HRB.out k hlt
   have hu1:=HRO.out k hlt
   have hsn:=foldl_snoc (rootS l) ⟨#[]⟩ M.roots k hlt
   have hgd:M.roots[k]=M.roots.getD k 0:=by rw[List.getD_eq_getElem?_getD,List.getElem?_eq_getElem hlt];rfl
   rw[hgd] at hsn
   generalize M.roots.getD k 0=u at *
   have ht:=toldS_size u l
   have hblz:=hB.out.lt
   obtain rfl:sr=some ⟨rb,ro,none⟩:=HSR.out.symm.trans hRa
   have hrs:=rootS_size l s u
   have HU:=Lib.hid hu1
   have HSN:=Lib.hid hsn
   have HK2:=Lib.hid hk
   clear hMr hRa hu1 hsn hgd hk hlt
   go_wp2_with (first
    | (go_at_call 55;refine (mTold_any M HG.out u hu2 hu3 HU.out (by rw[←HLL.out];omega) mb _ (HMP.out.ext hE.out) ((HTB.out.ext HX2.out).ext hE.out)).mono ?_;rintro e w4 ⟨he,hq⟩;rw[←HLL.out] at he;subst he;have HX4:=Lib.hid hq;clear hq)
    | (go_at_call 54;refine (write_ex bl bl s _ _ (hB.out.ext HX4.out) (by rw[ByteArray.size_append,ByteArray.size_append];omega) (by have:=HX4.out.size;omega)).mono ?_;rintro e w5 ⟨z,rfl,q1,q2,q3⟩;have HB5:=Lib.hid q1;have HE5:=Lib.hid (bld_step HBL.out hE.out HX4.out q2);clear q1 q2 q3))
   go_roundg r
   case measure=>omega
   case rel =>
    refine⟨k+1,rootS l s u,(by have:=HK2.out;omega),(by go_num),(by omega),?_,?_,HE5.out⟩
    ·show _=_
     unfold rootsS at hs ⊢
     rw[HSN.out,←hs.out]
    ·have e:rootS l s u=s++((⟨#[114,111,111,116,32]⟩++toldS u l)++⟨#[10]⟩):=by unfold rootS;simp only[ByteArray.append_assoc]
     rw[e]
     exact HB5.out
  | zero =>
   obtain rfl:k=M.roots.length:=by omega
   have hltz:¬((M.roots.length:Nat):Int)<(M.roots.length:Int):=by omega
   have hs':s=rootsS l M.roots ⟨#[]⟩:=by have:=hs.out;rw[List.take_length] at this;exact this
   have HS1:=Lib.hid hs'
   have hsz0:s.size≤40000000:=by omega
   have hTr:=(Tail.read HT.out).2
   have HTR:=Lib.hid hTr
   clear hs hs' hk hTr hsz
   generalize hTA:ta=TA
   have HTA:=Lib.hid hTA
   clear hTA
   obtain⟨wA,rfl⟩:∃ x,x=wr:=⟨wr,rfl⟩
   have HEA:Hid (Ext w2 wA):=hE.out
   have HBA:Hid (Bld bl bl s wA):=hB.out
   have HG0:Hid (objsT M.W l 0 (l.drop 0) s=showS M):=by
    unfold Hid showS
    rw[←HLL.out,List.drop_zero,HS1.out]
   clear hE hB
   clear q03
   go_upto_region 9 with fail
   go_loopg [43] (l.length) (fun r i wr=>∃ (k:Nat) (s:ByteArray),k+r=l.length∧i=.int .i64 (k:Int)∧s.size≤40000000+200000*k∧Hid (objsT M.W l k (l.drop k) s=showS M)∧Hid (Bld bl bl s wr)∧Hid (Ext w2 wr))
   case atStart=>exact⟨0,s,by omega,rfl,by omega,HG0.out,HBA.out,HEA.out⟩
   case round =>
    clear HG0 hsz0 HS1
    obtain⟨k,s,hk,rfl,hsz,hs,hB,hE⟩:=hrel
    cases gk with
    | succ r =>
     have hlt:k<l.length:=by omega
     have hltz:(k:Int)<(l.length:Int):=by omega
     have hat:(ats l)[k]'(by rw[ats_len];exact hlt)=(l[k].a:Int):=by simp[ats]
     obtain⟨tb,tp,hTe,hc0⟩:=(HTR.out.ext hE.out) _ _ (by rw[←HLL.out];exact tcells_at (ats l) k (by rw[ats_len];exact hlt))
     rw[hat] at hc0
     obtain rfl:TA=some ⟨tb,tp,none⟩:=HTA.out.symm.trans hTe
     have hmem:=HMEM.out _ (List.getElem_mem hlt)
     have hdrop:l.drop k=l[k]::l.drop (k+1):=List.drop_eq_getElem_cons hlt
     have hs2:=hs.out
     rw[hdrop,objsT] at hs2
     obtain⟨m1,m2,m3⟩:=mem_in HS.out hmem
     have hobn:=found_n HM.out.ok HS.out hmem
     have hk8:=HNR.out _ (by rw[←HLL.out];exact List.getElem_mem hlt)
     have hhd:=hd_in l[k].w (by rw[m2];exact (wat_in HM.out.ok _).1)
     have hsz4:=((isHd_iff l[k].w).1 m3).2.2
     have hfo:rawB (hKind l[k].w)=false→∀ j,j<l[k].n→fldB (startsM M) (wat M.W (l[k].a+1+j))=true:=fun hr j hj=>fld_ok HFO.out hmem hr j hj
     have hsz44:hSize l[k].w≤4096:=hsz4
     have hW:=len_small HS.out
     generalize l[k]=x at *
     have hxw:=wat_in HM.out.ok x.a
     rw[←m2] at hxw
     have hMr:RMem wr b 0 M S:=HM.out.ext (HX2.out.trans_ hE.out)
     have c3:=hMr.W
     have q0r:=(HX2.out.trans_ hE.out).cell_ HP.out
     have hbzr:=hMr.lt
     simp only[Nat.zero_add] at c3
     have hil:x.a<M.W.length:=by omega
     have hilz:(x.a:Int)<(M.W.length:Int):=by omega
     obtain⟨wb,wo,hWa,hcW⟩:=hMr.rW x.a _ (wcells_at M.W x.a hil)
     have hcW':wr.cell? ⟨wb,wo+x.a,none⟩=some (.int .u64 x.w):=by rw[hcW,m2];simp[wat,List.getD_eq_getElem?_getD,hil]
     rw[hWa] at c3
     obtain⟨kd,hkd⟩:∃ kd,hKind x.w=kd:=⟨_,rfl⟩
     have HRO:=Lib.hid hk8
     rw[hkd] at hs2 hhd hfo
     clear hk8
     have hdz1:=decS_size (k:Int)
     have hdz2:=decS_size kd
     have hk64:(k:Int)≤9223372036854775807:=by omega
     have hhs:=headS_size k kd s
     have n1:¬9223372036854775807<(decS (k:Int)).size+1:=by omega
     have n2:¬9223372036854775807<(decS (k:Int)).size+1+(decS kd).size:=by omega
     obtain⟨hk0,hk255,_⟩:=hhd
     have hcapW:=hMr.capW
     have HWA:=Lib.hid hWa
     have HS2:=Lib.hid hs2
     have HK2:=Lib.hid hk
     have HM1:=Lib.hid m1
     have HFO2:=Lib.hid hfo
     have HXN:Hid ((x.n:Int)=hSize x.w):=hobn
     have HE2:=Lib.hid hE.out
     have HB2:=Lib.hid hB.out
     have HSZ:=Lib.hid hsz
     have HWW:=Lib.hid hW
     have HXW:=Lib.hid hxw
     have HM3:=Lib.hid m3
     have HIL:=Lib.hid hil
     have HKD:=Lib.hid hkd
     clear hs hs2 hdrop hmem m1 m2 m3 hobn hfo hE hB hkd hk hlt hW hsz4 hat hTe hxw hMr hil hWa hcW hsz
     go_upto_region 12 with (go_at_call 56;refine (toHead_yes x.w HXW.out.1 HXW.out.2 HM3.out _).mono ?_;rintro e w5 ⟨rfl,hq⟩;have HX5:=Lib.hid hq;clear hq)
     refine named_world' (fun W5 hW5=>?_)
     obtain⟨H,hH⟩:∃ H,H=w5.heap.size:=⟨_,rfl⟩
     rw[←hH]
     have hX5:Ext wr W5:=by rw[hW5];exact HX5.out.alloc_ _
     have hob:W5.heap[H]?=some (.cells #[.int .i64 kd,.int .i64 (hAge x.w),.int .i64 (hMark x.w),.int .i64 (hSize x.w)] 92 (0,0)):=by rw[hW5,hH,←HKD.out];exact heap_alloc_new _ _
     have hHb:bl<H:=by rw[hH];exact Nat.lt_of_lt_of_le HB2.out.lt HX5.out.size
     have h0:W5.cell? ⟨H,0,none⟩=some (.int .i64 kd):=by simp[World.cell?,hob]
     have HOB:=Lib.hid hob
     have HX:=Lib.hid hX5
     have HHB:=Lib.hid hHb
     clear hW5 hH hX5 hob hHb hc0 hcW' c3 q0r
     go_wp2
     refine wp_region_held_drew (S:=fun W=>W.cell? ⟨H,0,none⟩=some (.int .i64 kd)) (by kernel_rfl) ?_ (fun hHeld=>?_)
     ·exact h0
     refine tk 0 ⟨some 62,_,_,_,_,_⟩ ?_ rfl ?_ ?_
     rotate_left
     ·(intro w hSw;(try dsimp only at hSw);go_simp;try with_reducible rfl)
     try simp only[tkS]
     refine tk 3 ⟨some 65,_,_,_,_,_⟩ ?_ rfl ?_ ?_
     rotate_left
     ·(intro w hSw;(try dsimp only at hSw);go_simp;try with_reducible rfl)
     try simp only[tkS]
     refine tk 4 ⟨some 66,_,_,_,_,_⟩ ?_ rfl ?_ ?_
     rotate_left
     ·(intro w hSw;(try dsimp only at hSw);go_simp;try with_reducible rfl)
     try simp only[tkS]
     refine wpAnyH_ready (rs:=[1]) (by kernel_rfl) (by simp) ?_
     refine AllReadyH.cons (o:=⟨some 63,_,_,_,_,_⟩) rfl (fun K hK=>?_) AllReadyH.nil
     go_simp
     refine (itoaS_any (k:Int) (by omega) (by omega) _ (((HTB.out.ext HX2.out).ext (HE2.out.trans_ HX.out)).ext (by repeat (first|exact Ext.refl _|(refine Ext.drew_ ?_)|(refine Ext.drewN_ ?_ _))))).mono ?_
     rintro e w6 ⟨rfl,hq⟩
     have q6:=hq.cell_ hHeld
     have HX6:Hid (Ext W5 w6):=Ext.trans_ (by repeat (first|exact Ext.refl _|(refine Ext.drew_ ?_)|(refine Ext.drewN_ ?_ _))) hq
     clear hq
     refine hK.out _ _ ?_ (fun hHeld=>?_)
     ·(try dsimp only);exact q6
     clear hK K
     try simp only[tkS]
     refine tk 2 ⟨some 64,_,_,_,_,_⟩ ?_ rfl ?_ ?_
     rotate_left
     ·(intro w hSw;(try dsimp only at hSw);go_simp;try with_reducible rfl)
     try simp only[tkS]
     refine wpAnyH_ready (rs:=[5]) (by kernel_rfl) (by simp) ?_
     refine AllReadyH.cons (o:=⟨some 67,_,_,_,_,_⟩) rfl (fun K hK=>?_) AllReadyH.nil
     go_simp
     refine (itoaS_any kd (by omega) (by omega) _ (((HTB.out.ext HX2.out).ext (HE2.out.trans_ HX.out)).ext HX6.out)).mono ?_
     rintro e w7 ⟨rfl,hq⟩
     have q7:=hq.cell_ hHeld
     have HX7:=Lib.hid hq
     clear hq
     refine hK.out _ _ ?_ (fun hHeld=>?_)
     ·(try dsimp only);exact q7
     clear hK K
     try simp only[tkS]
     refine tk 6 ⟨some 68,_,_,_,_,_⟩ ?_ rfl ?_ ?_
     rotate_left
     ·(intro w hSw;(try dsimp only at hSw);go_simp;try with_reducible rfl)
     try simp only[tkS]
     refine wpAnyH_ready (rs:=[7]) (by kernel_rfl) (by simp) ?_
     refine AllReadyH.cons (o:=⟨some 69,_,_,_,_,_⟩) rfl (fun K hK=>?_) AllReadyH.nil
     go_simp
     refine (write_ex bl bl s _ _ (HB2.out.ext (HX.out.trans_ (HX6.out.trans_ HX7.out))) (by rw[ByteArray.size_append,ByteArray.size_append,z1'];have:=HSZ.out;omega) (by have h1:=HBL.out;have h2:=HE2.out.size;have h3:=HX.out.size;have h4:=HX6.out.size;have h5:=HX7.out.size;omega)).mono ?_
     rintro e w8 ⟨z,rfl,q1,q2,q3⟩
     have HB8:=Lib.hid q1
     have HQ2:=Lib.hid q2
     have hob8:=q3 H _ ((HX6.out.trans_ HX7.out).heap_ HOB.out) (by simp;have:=HHB.out;omega) (by intro c fz e;injection e with e1 e2;revert e2;decide)
     have HOB8:=Lib.hid hob8
     have q8:w8.cell? ⟨H,0,none⟩=some (.int .i64 kd):=by simp[World.cell?,hob8]
     clear q1 q2 q3 hob8
     refine hK.out _ _ ?_ (fun hHeld=>?_)
     ·(try dsimp only);exact q8
     clear hK K
     try simp only[tkS]
     refine wpAnyH_done (by kernel_rfl) ?_ _
     have hHW:=hHeld
     clear hHeld h0
     have hE8:Ext w2 w8:=bld_step HBL.out HE2.out (HX.out.trans_ (HX6.out.trans_ HX7.out)) HQ2.out
     have hB8:Bld bl bl (headS k kd s) w8:=by
      have e:headS k kd s=s++((decS (k:Int)++⟨#[32]⟩)++decS kd):=by unfold headS;simp only[ByteArray.append_assoc]
      rw[e];exact HB8.out
     obtain⟨y,hy⟩:∃ y,y=headS k kd s:=⟨_,rfl⟩
     rw[←hy] at hB8 hhs
     have HY:=Lib.hid hy
     have HE8:=Lib.hid hE8
     have HB8y:=Lib.hid hB8
     have hMc:=HM.out.ext (HX2.out.trans_ hE8)
     have q08:=(HX2.out.trans_ hE8).cell_ HP.out
     have h08:w8.cell? ⟨H,0,none⟩=some (.int .i64 kd):=by simp[World.cell?,HOB8.out]
     have HWL:Hid (M.W.length≤1000000000):=by have:=HWW.out;unfold Hid;omega
     by_cases hk1:kd=1
     ·have hk1b:(kd==1)=true:=by simpa using hk1
      have HLT:Hid (x.a+1<M.W.length):=by have h1:=HM1.out;have h2:=HRO.out.one (HKD.out.trans hk1);unfold Hid;omega
      have HTS:Hid ((decS (longOf M.W x.a)).size≤22):=decS_size _
      have hts:=HTS.out
      clear hMc HRO
      have hbd:bodyS M.W l x y=(y++⟨#[32]⟩)++decS (longOf M.W x.a):=by unfold bodyS;rw[HKD.out];rw[if_pos hk1]
      go_upto_region 23 with (first
       | (go_at_call 59;refine (long_walk x.a _ (HM.out.ext (HX2.out.trans_ (HE8.out.trans_ (by repeat (first|exact Ext.refl _|(refine Ext.drew_ ?_)|(refine Ext.drewN_ ?_ _)|(refine Ext.alloc_ ?_ _)))))) ((HX2.out.trans_ (HE8.out.trans_ (by repeat (first|exact Ext.refl _|(refine Ext.drew_ ?_)|(refine Ext.drewN_ ?_ _)|(refine Ext.alloc_ ?_ _))))).cell_ HP.out) HLT.out HWL.out).mono ?_;rintro e w9 ⟨rfl,hq⟩;have HX9:Hid (Ext w8 w9):=Ext.trans_ (by repeat (first|exact Ext.refl _|(refine Ext.drew_ ?_)|(refine Ext.drewN_ ?_ _)|(refine Ext.alloc_ ?_ _))) hq;clear hq)
       | (go_at_call 58;refine (fmtS_any (longOf M.W x.a) (longOf_in _ _).1 (longOf_in _ _).2 _ ((HTB.out.ext HX2.out).ext (HE8.out.trans_ HX9.out))).mono ?_;rintro e w4 ⟨rfl,hq⟩;have HXC:Hid (Ext w8 w4):=HX9.out.trans_ hq;clear hq)
       | (go_at_call 54;refine (write_ex bl bl y _ _ (HB8y.out.ext HXC.out) (by rw[ByteArray.size_append];have h1:=HSZ.out;have h2:=HTS.out;omega) (by have h1:=HXC.out.size;have h2:=HB8y.out.lt;omega)).mono ?_;rintro e w6 ⟨z,rfl,q1,q2,q3⟩;have HB6:=Lib.hid q1;have HE6:=Lib.hid (bld_step HBL.out HE8.out HXC.out q2);clear q1 q2 q3))
      have HB7:Hid (Bld bl bl (bodyS M.W l x y) w6):=by
       rw[hbd,show (y++(⟨#[32]⟩:ByteArray))++decS (longOf M.W x.a)=y++(⟨#[32]⟩++decS (longOf M.W x.a)) by rw[ByteArray.append_assoc]];exact HB6.out
      have hbz:(bodyS M.W l x y).size≤y.size+9000:=by rw[hbd];simp only[ByteArray.size_append];have h2:=HTS.out;have z1:(⟨#[32]⟩:ByteArray).size=1:=rfl;omega
      have hblz:=HB7.out.lt
      have HBZ:=Lib.hid hbz
      clear hbd HB6 hbz
      go_wp2_with (go_at_call 54;refine (write_ex bl bl (bodyS M.W l x y) _ _ (HB7.out.ext (by repeat (first|exact Ext.refl _|(refine Ext.drew_ ?_)|(refine Ext.drewN_ ?_ _)|(refine Ext.alloc_ ?_ _)))) (by have h1:=HBZ.out;have h2:=HSZ.out;have z1:(⟨#[10]⟩:ByteArray).size=1:=rfl;omega) (by first|omega|(simp;omega))).mono ?_;rintro e w7 ⟨z,rfl,q1,q2,q3⟩;have HB8:=Lib.hid q1;have HE9:=Lib.hid (bld_step HBL.out HE6.out (by repeat (first|exact Ext.refl _|(refine Ext.drew_ ?_)|(refine Ext.drewN_ ?_ _)|(refine Ext.alloc_ ?_ _))) q2);clear q1 q2 q3)
      go_roundg r
      case measure=>omega
      case rel =>
       refine⟨k+1,bodyS M.W l x y++⟨#[10]⟩,(by have:=HK2.out;omega),(by go_num),(by rw[ByteArray.size_append];have h1:=HBZ.out;have h2:=HSZ.out;have z1:(⟨#[10]⟩:ByteArray).size=1:=rfl;omega),?_,HB8,HE9⟩
       have h:=HS2.out
       rw[←HY.out] at h
       exact h
     have hk1b:(kd==1)=false:=by simpa using hk1
     by_cases hk2:kd=2
     ·have hk2b:(kd==2)=true:=by simpa using hk2
      have h2':=HRO.out.two (HKD.out.trans hk2)
      have HLT:Hid ((0≤wat M.W (x.a+1)∧wat M.W (x.a+1)≤2000)∧x.a+2+((wat M.W (x.a+1)).toNat+7)/8≤M.W.length):=⟨⟨h2'.1,h2'.2.1⟩,by have h1:=HM1.out;omega⟩
      have HTS:Hid ((quotedP (textOf M.W x.a)).size≤8002):=by have h1:=quotedP_size (textOf M.W x.a);rw[textOf_size] at h1;unfold Hid;omega
      have hts:=HTS.out
      clear hMc HRO h2'
      have hbd:bodyS M.W l x y=(y++⟨#[32]⟩)++quotedP (textOf M.W x.a):=by unfold bodyS;rw[HKD.out];rw[if_neg hk1,if_pos hk2]
      go_upto_region 23 with (first
       | (go_at_call 61;refine (hbytes_walk x.a _ (HM.out.ext (HX2.out.trans_ (HE8.out.trans_ (by repeat (first|exact Ext.refl _|(refine Ext.drew_ ?_)|(refine Ext.drewN_ ?_ _)|(refine Ext.alloc_ ?_ _)))))) ((HX2.out.trans_ (HE8.out.trans_ (by repeat (first|exact Ext.refl _|(refine Ext.drew_ ?_)|(refine Ext.drewN_ ?_ _)|(refine Ext.alloc_ ?_ _))))).cell_ HP.out) HLT.out.1 HLT.out.2 HWL.out).mono ?_;rintro e w9 ⟨rfl,hq⟩;have HX9:Hid (Ext w8 w9):=Ext.trans_ (by repeat (first|exact Ext.refl _|(refine Ext.drew_ ?_)|(refine Ext.drewN_ ?_ _)|(refine Ext.alloc_ ?_ _))) hq;clear hq)
       | (go_at_call 60;refine (quote_any (textOf M.W x.a) _ (by rw[textOf_size];have:=HLT.out.1;omega)).mono ?_;rintro e w4 ⟨rfl,hq⟩;have HXC:Hid (Ext w8 w4):=HX9.out.trans_ hq;clear hq)
       | (go_at_call 54;refine (write_ex bl bl y _ _ (HB8y.out.ext HXC.out) (by rw[ByteArray.size_append];have h1:=HSZ.out;have h2:=HTS.out;omega) (by have h1:=HXC.out.size;have h2:=HB8y.out.lt;omega)).mono ?_;rintro e w6 ⟨z,rfl,q1,q2,q3⟩;have HB6:=Lib.hid q1;have HE6:=Lib.hid (bld_step HBL.out HE8.out HXC.out q2);clear q1 q2 q3))
      have HB7:Hid (Bld bl bl (bodyS M.W l x y) w6):=by
       rw[hbd,show (y++(⟨#[32]⟩:ByteArray))++quotedP (textOf M.W x.a)=y++(⟨#[32]⟩++quotedP (textOf M.W x.a)) by rw[ByteArray.append_assoc]];exact HB6.out
      have hbz:(bodyS M.W l x y).size≤y.size+9000:=by rw[hbd];simp only[ByteArray.size_append];have h2:=HTS.out;have z1:(⟨#[32]⟩:ByteArray).size=1:=rfl;omega
      have hblz:=HB7.out.lt
      have HBZ:=Lib.hid hbz
      clear hbd HB6 hbz
      go_wp2_with (go_at_call 54;refine (write_ex bl bl (bodyS M.W l x y) _ _ (HB7.out.ext (by repeat (first|exact Ext.refl _|(refine Ext.drew_ ?_)|(refine Ext.drewN_ ?_ _)|(refine Ext.alloc_ ?_ _)))) (by have h1:=HBZ.out;have h2:=HSZ.out;have z1:(⟨#[10]⟩:ByteArray).size=1:=rfl;omega) (by first|omega|(simp;omega))).mono ?_;rintro e w7 ⟨z,rfl,q1,q2,q3⟩;have HB8:=Lib.hid q1;have HE9:=Lib.hid (bld_step HBL.out HE6.out (by repeat (first|exact Ext.refl _|(refine Ext.drew_ ?_)|(refine Ext.drewN_ ?_ _)|(refine Ext.alloc_ ?_ _))) q2);clear q1 q2 q3)
      go_roundg r
      case measure=>omega
      case rel =>
       refine⟨k+1,bodyS M.W l x y++⟨#[10]⟩,(by have:=HK2.out;omega),(by go_num),(by rw[ByteArray.size_append];have h1:=HBZ.out;have h2:=HSZ.out;have z1:(⟨#[10]⟩:ByteArray).size=1:=rfl;omega),?_,HB8,HE9⟩
       have h:=HS2.out
       rw[←HY.out] at h
       exact h
     have hk2b:(kd==2)=false:=by simpa using hk2
     have hk8:8≤kd:=by
      rcases HRO.out.kind with q|q|q<;>rw[HKD.out] at q
      ·exact absurd q hk1
      ·exact absurd q hk2
      ·exact q
     have hbd:Hid (bodyS M.W l x y=fieldsS l kd (fldsW M.W x) y):=by unfold Hid bodyS;rw[HKD.out,if_neg hk1,if_neg hk2]
     clear HRO
     have c3:=hMc.W
     have hbz8:=hMc.lt
     simp only[Nat.zero_add] at c3
     rw[HWA.out] at c3
     have hcap:=hMc.capW
     have hsz:=HXN.out
     have hm1:=HM1.out
     have h3:w8.cell? ⟨H,3,none⟩=some (.int .i64 (hSize x.w)):=by simp[World.cell?,HOB8.out]
     obtain⟨A,C,hsl,hAC,hAn,hRA⟩:=run_part (P:=Tryz.prog) undU64 sizeU64 wb wo M.W.length S.W.2 (x.a+1) (x.a+1+x.n) ((x.a:Int)+1) ((x.a:Int)+1+hSize x.w) (by omega) (by omega) (by omega) (by omega)
     have HRA2:Hid (∀ wr,RMem wr b 0 M S→RSl wr A (wcells (fldsW M.W x))):=fun wr hr=>by
      have:=hRA wr _ (HWA.out ▸ hr.rW)
      rw[flds_cells M x (by omega)] at this
      exact this
     rw[show x.a+1+x.n-(x.a+1)=x.n by omega] at hsl hAC
     have e1:IntKind.i64.wrap ((x.a:Int)+1)=(x.a:Int)+1:=IntWalk.i64_in _ (by have:=HWW.out;omega)
     have e2:IntKind.i64.wrap ((x.a:Int)+1+hSize x.w)=(x.a:Int)+1+hSize x.w:=IntWalk.i64_in _ (by have:=HWW.out;omega)
     have hxn:x.n≤1000000:=by omega
     have hHz:=cell_lt h3
     simp only at hHz
     clear hRA hMc hcap hm1 hy hE8 hB8 hHW
     go_wp2
     go_region
     go_wp2
     have HXN2:=Lib.hid hxn
     obtain⟨wB,hwB⟩:∃ x,x=w8.drew:=⟨_,rfl⟩
     have HEB:Hid (Ext w2 wB):=by rw[hwB];exact HE8.out.drew_
     have HBB:Hid (Bld bl bl y wB):=by rw[hwB];exact HB8y.out.ext ((Ext.refl _).drew_)
     have HOBB:Hid (wB.heap[H]?=some (.cells #[.int .i64 kd,.int .i64 (hAge x.w),.int .i64 (hMark x.w),.int .i64 (hSize x.w)] 92 (0,0))):=by rw[hwB];exact HOB8.out
     clear hsl hAC e1 e2 c3 h3
     go_loopg [88] (x.n) (fun r i wr2=>∃ (j:Nat) (t:ByteArray),j+r=x.n∧i=.int .i64 (j:Int)∧t.size≤y.size+40*j∧Hid (t=fieldsS l kd ((fldsW M.W x).take j) y)∧Hid (Bld bl bl t wr2)∧Hid (Ext w2 wr2)∧Hid (wr2.heap[H]?=some (.cells #[.int .i64 kd,.int .i64 (hAge x.w),.int .i64 (hMark x.w),.int .i64 (hSize x.w)] 92 (0,0))))
     case atStart=>(try rw[←hwB]);exact⟨0,y,by omega,rfl,Nat.le_refl _,rfl,HBB.out,HEB.out,HOBB.out⟩
     case round =>
      obtain⟨j,t,hj,rfl,htz,ht,hB,hE,hOb⟩:=hrel
      have h0:wr.cell? ⟨H,0,none⟩=some (.int .i64 kd):=by simp[World.cell?,hOb.out]
      have hHz:=cell_lt h0
      simp only at hHz
      cases gk with
      | succ r2 =>
       have hlt:j<x.n:=by omega
       have hltz2:(j:Int)<(x.n:Int):=by omega
       obtain⟨ab,ao,hA,hcell⟩:=HRA2.out _ (HM.out.ext (HX2.out.trans_ hE.out)) j _ (wcells_at (fldsW M.W x) j (by simp[fldsW];omega))
       have hgd:(fldsW M.W x).getD j 0=wat M.W (x.a+1+j):=by simp[fldsW,List.getD_eq_getElem?_getD,hlt]
       rw[hgd] at hcell
       subst hA
       obtain⟨hu2,hu3⟩:=wat_in HM.out.ok (x.a+1+j)
       have hsn:=foldl_snoc (fieldS l kd) y (fldsW M.W x) j (by simp[fldsW];omega)
       have hge:(fldsW M.W x)[j]'(by simp[fldsW];omega)=wat M.W (x.a+1+j):=by simp[fldsW]
       rw[hge] at hsn
       have hfb:rawB kd=false→fldB (startsM M) (wat M.W (x.a+1+j))=true:=fun hr=>HFO2.out hr j hlt
       generalize wat M.W (x.a+1+j)=u at *
       have htd:=toldS_size u l
       have hfz:=fieldS_size l kd t u
       have hblz:=hB.out.lt
       have HJ:=Lib.hid hj
       have HSN:=Lib.hid hsn
       have HFB:=Lib.hid hfb
       have HTZ:=Lib.hid htz
       have hyz:y.size≤1000000000000:=by have:=HSZ.out;omega
       clear hj hsn hfb htz hgd hge hlt
       have hrw:rawB kd=false:=decide_eq_false (by omega)
       have HR:=Lib.hid hrw
       have HU:=Lib.hid (HFB.out hrw)
       have z2:(⟨#[32]⟩:ByteArray).size=1:=rfl
       clear hrw
       go_wp2_with (first
        | (go_at_call 55;refine (mTold_any M HG.out u hu2 hu3 HU.out (by rw[←HLL.out];omega) mb _ (HMP.out.ext hE.out) ((HTB.out.ext HX2.out).ext hE.out)).mono ?_;rintro e w4 ⟨he,hq⟩;rw[←HLL.out] at he;subst he;have HX4:=Lib.hid hq;clear hq)
        | (go_at_call 54;refine (write_ex bl bl t _ _ (hB.out.ext HX4.out) (by rw[ByteArray.size_append];have:=HTZ.out;omega) (by have h1:=HX4.out.size;omega)).mono ?_;rintro e w6 ⟨z,rfl,q1,q2,q3⟩;have HB6:=Lib.hid q1;have HE6:=Lib.hid (bld_step HBL.out hE.out HX4.out q2);have HO6:=Lib.hid (q3 H _ (HX4.out.heap_ hOb.out) (by simp;have:=HHB.out;omega) (by intro c fz e;injection e with e1 e2;revert e2;decide));clear q1 q2 q3))
       go_roundg r2
       case measure=>omega
       case rel =>
        refine⟨j+1,fieldS l kd t u,(by have:=HJ.out;omega),(by go_num),(by have:=HTZ.out;omega),?_,?_,HE6.out,HO6.out⟩
        ·show _=_
         have h1:=HSN.out
         unfold fieldsS at ht ⊢
         rw[h1,←ht.out]
        ·have e:fieldS l kd t u=t++(⟨#[32]⟩++toldS u l):=by
          unfold fieldS
          rw[if_neg (show ¬kd<8 by omega)]
          simp only[ByteArray.append_assoc]
         rw[e]
         exact HB6.out
      | zero =>
       obtain rfl:j=x.n:=by omega
       have hltz2:¬((x.n:Nat):Int)<(x.n:Int):=by omega
       have ht':t=fieldsS l kd (fldsW M.W x) y:=by
        have:=ht.out
        rw[List.take_of_length_le (by simp[fldsW])] at this
        exact this
       have HT':=Lib.hid ht'
       have hxn':=HXN.out
       have HTZ:=Lib.hid htz
       have hblz:=hB.out.lt
       clear ht ht' hj htz
       go_wp2_with (go_at_call 54;refine (write_ex bl bl t _ _ hB.out (by have h1:=HTZ.out;have h2:=HSZ.out;omega) (by omega)).mono ?_;rintro e w6 ⟨z,rfl,q1,q2,q3⟩;have HB6:=Lib.hid q1;have HE6:=Lib.hid (bld_step HBL.out hE.out (Ext.refl _) q2);clear q1 q2 q3)
       go_roundg r
       case measure=>omega
       case rel =>
        refine⟨k+1,t++⟨#[10]⟩,(by have:=HK2.out;omega),(by go_num),(by rw[ByteArray.size_append];have h1:=HTZ.out;have h2:=HSZ.out;omega),?_,HB6,HE6⟩
        have h:=HS2.out
        rw[←HY.out,hbd.out,←HT'.out] at h
        exact h
    | zero =>
     obtain rfl:k=l.length:=by omega
     have hltz:¬((l.length:Nat):Int)<(l.length:Int):=by omega
     have hgs:s=showS M:=by
      have h:=hs.out
      rw[List.drop_length,objsT] at h
      exact h
     obtain⟨g,hg⟩:∃ g,g=showS M:=⟨_,rfl⟩
     rw[←hg] at hgs
     subst hgs
     have HGS:=Lib.hid hg
     have hblz:=hB.out.lt
     clear hs hg hk hsz
     go_wp2_with (go_at_call 62;refine (string_any bl bl _ _ hB.out (by omega)).mono ?_;rintro e w8 ⟨rfl,hq⟩;have HQ8:=Lib.hid (bld_step HBL.out hE.out (Ext.refl _) hq);clear hq)
     go_ret
     exact⟨by rw[HGS.out];rfl,HX2.out.trans_ HQ8.out⟩
theorem objsT_plain (W:List Int) (l:List Ob):∀ (i:Nat) (xs:List Ob) (out:ByteArray),(∀ x∈xs,8≤hKind x.w)→objsT W l i xs out=objsS W l i xs out
 | _,[],_,_=>rfl
 | i,x::xs,out,h=>by
  have h1:=h x (by simp)
  have e:bodyS W l x (headS i (hKind x.w) out)=fieldsS l (hKind x.w) (fldsW W x) (headS i (hKind x.w) out):=by unfold bodyS;rw[if_neg (by omega),if_neg (by omega)]
  rw[objsT,objsS,e]
  exact objsT_plain W l (i+1) xs _ fun y hy=>h y (by simp[hy])
theorem show_walk (hb b:Nat) (M:Mem) (S:Sls) (w:World) (hM:RMem w b 0 M S) (hp:w.cell? ⟨hb,0,none⟩=some (.pointer (some ⟨b,0,none⟩))) (hg:goodB M=true) (hF:Few M) (hT:Tabs w) (hnr:∀ x∈reachP M,8≤hKind x.w) :
  Calls Tryz.prog 19 #[.pointer (some ⟨hb,0,none⟩)] w fun e w'=>e=.returned (.string (graphS M))∧Ext w w':=by
 refine (show2_walk hb b M S w hM hp hg hF hT fun x hx=>⟨Or.inr (Or.inr (hnr x hx)),fun q=>by have:=hnr x hx;omega,fun q=>by have:=hnr x hx;omega⟩).mono ?_
 rintro e w9 ⟨he,hq⟩
 refine⟨?_,hq⟩
 rw[he]
 unfold showS graphS
 rw[objsT_plain _ _ _ _ _ hnr]
section
variable {B hb b:Nat} {M:Mem} {S:Sls} {E:Nat→Addr} {ten nx:Int}
theorem HStep.extB {w0 w1 w':World} {S':Sls} (hX:Ext w0 w1) (hB:w0.heap.size≤B) (hH:OHeap w1 B hb b M S ten nx) (hS:HStep hb b w1 S w' S'):Ext w0 w' :=
 Below.trans hX ⟨hS.keep.os,hS.keep.tape,hS.keep.output,hS.keep.size,fun k hk=>hS.keep.block k (Nat.lt_of_lt_of_le hk hX.size) fun e=>by have:=(hH.own e).1;omega⟩
theorem G4.gb {w:World} (h:G4 E w):GB w.heap.size:=⟨cell_lt h.bound,cell_lt h.shape,cell_lt h.place,cell_lt h.full⟩
theorem HInv.few {M:Mem} {nx:Int} (h:HInv M nx) (hr:M.roots.length≤1000000) (hw:M.weak.length≤1000000) (hi:M.ids.length≤1000000):Few M:=by
 have hs:=(good_parts (chk_zero h.chk).1).1
 obtain⟨h1,h2,h3,h4,h5,h6,h7,h8,h9,h10,h11,h12,h13,h14⟩:=hs
 refine⟨by omega,hr,hw,hi,?_⟩
 have:(M.old+M.card-1)/M.card≤M.old+M.card-1:=Int.ediv_le_self _ (by omega)
 omega
end
theorem newHM_inv (half old card:Int) (n:Nat) (h:newOK half old card=true) (hn:n≤5000):HInv (newHM half old card n) 1:=by
 refine⟨newHM_ok half old card n h hn,?_,by omega,by simp[newHM,newM]⟩
 simp only[newOK,Bool.and_eq_true] at h
 obtain⟨⟨h1,h2⟩,h3⟩:=h
 exact (good_fresh half old card (inR_true.1 h1) (inR_true.1 h2) (inR_true.1 h3) (List.replicate n 2) fun x hx=>by rw[(List.mem_replicate.1 hx).2];decide).chk
theorem hnew2_yes (half old card ten:Int) (h:newOK half old card=true) (ht:0≤ten∧ten≤15) (w:World) :
  Calls Tryz.prog 10 #[.agg #[.int .i64 half,.int .i64 old,.int .i64 card,.int .i64 ten],.int .i64 2] w (HNewPost w ten (newHM half old card 2)):=hnew_yes half old card ten 2 h ht (by omega) w
def holdM0:Mem:=newHM 8 16 4 2
def holdM1:Mem:=rootM holdM0 0 29
def holdM2:Mem:=rootM (objM holdM1 1 8 1) 1 4
theorem hold_c2:objC holdM1 1 1=0∧objPl holdM1 1 1=0:=by decide +kernel
theorem hold_g:graphS holdM2=⟨#[114,111,111,116,32,55,10,114,111,111,116,32,64,48,10,48,32,56,32,110,111,110,101,10]⟩:=by decide +kernel
theorem hold_k:(reachP holdM2).all (fun x=>decide (8≤hKind x.w))=true:=by decide +kernel
theorem hold_i1:HInv holdM1 1:=by
 have h:=newHM_inv 8 16 4 2 (by decide) (by omega)
 obtain⟨lN,lO,hg⟩:=good_of h.chk
 exact (rootM_inv h hg 0 29 (by omega) (by rfl)).1
theorem hold_i2:HInv holdM2 1∧holdM2.roots.length=2∧holdM2.weak.length=0∧holdM2.ids.length=0:=by
 obtain⟨i1,i2,i3⟩:=objM_inv (ten:=1) (sz:=1) (by omega) hold_i1 8 (by omega) (by omega)
 obtain⟨a,ha,hN⟩:=i3 hold_c2.1
 obtain⟨lN,lO,hg,hm⟩:=hN.good
 rw[hold_c2.2] at ha
 have ha0:a=0:=by omega
 subst ha0
 refine⟨(rootM_inv i1 hg 1 4 (by omega) ?_).1,?_,?_,?_⟩
 ·unfold fldB
  rw[if_pos (by decide),Bool.or_eq_true]
  exact Or.inr (stL_mem.2 hm)
 ·show ((objM holdM1 1 8 1).roots.set 1 4).length=2
  rw[List.length_set,i2.roots];rfl
 ·show (objM holdM1 1 8 1).weak.length=0
  rw[i2.weak];rfl
 ·show (objM holdM1 1 8 1).ids.length=0
  have:=i2.ids
  have e:holdM1.ids.length=0:=rfl
  omega
theorem hold_walk (E:Nat→Addr) (w:World) (hE:G4 E w) (hT:Tabs w) :
  Calls Tryz.prog 9 #[] w fun e w'=>e=.returned (.bool true)∧Ext w w':=by
 have HE:=Lib.hid hE
 have HT:=Lib.hid hT
 have HGB:=Lib.hid hE.gb
 clear hE hT
 go_enter Tryz.func9,Tryz.ntmps9
 go_wp2_with (first
  | (go_at_call 10;refine (hnew2_yes 8 16 4 1 (by decide) (by omega) _).mono ?_;rintro e w1 ⟨hb,b,S,rfl,h1,hq⟩;have HH1:Hid (OHeap w1 w.heap.size hb b holdM0 S 1 1):=h1;have HX1:=Lib.hid hq;clear h1 hq)
  | (go_at_call 15;refine (int_walk _ HH1.out (newHM_inv 8 16 4 2 (by decide) (by omega)) (HE.out.ext HX1.out) (by omega) HGB.out 0 (by omega) (by decide) 7).mono ?_;rintro e w2 ⟨he,S2,h1,h2⟩;rw[show errC E (numC holdM0 1 7)=.nilIface from rfl] at he;subst he;have HH2:Hid (OHeap w2 w.heap.size hb b holdM1 S2 1 1):=h1;have HS2:=Lib.hid h2;clear h1 h2)
  | (go_at_call 11;refine (make_walk w2 HH2.out hold_i1 ((HE.out.ext HX1.out).step HH1.out HS2.out HGB.out) (by omega) HGB.out 1 (by omega) (by decide) 8 1 (by omega) (by omega)).mono ?_;rintro e w3 ⟨he,S3,h1,h2⟩;rw[hold_c2.1,show errC E 0=.nilIface from rfl] at he;subst he;rw[hold_c2.1,hold_c2.2] at h1;have HH3:Hid (OHeap w3 w.heap.size hb b holdM2 S3 1 1):=h1;have HS3:Hid (HStep hb b w1 S w3 S3):=HS2.out.trans_ h2;have HX3:Hid (Ext w w3):=HStep.extB HX1.out (Nat.le_refl _) HH1.out HS3.out;clear h1 h2)
  | (go_at_call 19;refine (show_walk hb b holdM2 S3 w3 (HH3.out.mem.mem hold_i2.1.ok) HH3.out.ptr (chk_zero hold_i2.1.chk).1 (hold_i2.1.few (by rw[hold_i2.2.1];omega) (by rw[hold_i2.2.2.1];omega) (by rw[hold_i2.2.2.2];omega)) (HT.out.ext HX3.out) (fun x hx=>of_decide_eq_true (List.all_eq_true.1 hold_k x hx))).mono ?_;rintro e w4 ⟨he,hq⟩;rw[hold_g] at he;subst he;have HX4:Hid (Ext w w4):=HX3.out.trans_ hq;clear hq))
 go_ret
 exact⟨rfl,HX4.out⟩
section
variable {B hb b:Nat} {M:Mem} {S:Sls} {E:Nat→Addr} {ten nx:Int}
def lookC (M:Mem) (k r:Int):Int:=if (decide (0≤k)&&decide (k<(M.weak.length:Int)))&&rootB M r then 0 else 5
theorem look_err (w:World) (hH:OHeap w B hb b M S ten nx) (hI:HInv M nx) (hE:G4 E w) (k r:Int) (hr0:-9223372036854775808≤r∧r≤9223372036854775807) (hc:lookC M k r≠0) :
  Calls Tryz.prog 71 #[.pointer (some ⟨hb,0,none⟩),.int .i64 k,.int .i64 r] w fun e w'=>e=.returned (.tuple #[.bool false,errC E 5])∧Ext w w':=by
 have HH:=Lib.hid hH
 have HI:=Lib.hid hI
 have HE:=Lib.hid hE
 have q0:=hH.ptr
 have c8:=(hH.mem.mem hI.ok).weak
 simp only[Nat.zero_add] at c8
 have h3:k<0∨(¬k<0∧(M.weak.length:Int)≤k)∨(¬k<0∧¬(M.weak.length:Int)≤k∧rootB M r=false):=by
  by_cases a:k<0
  ·exact Or.inl a
  ·by_cases c:(M.weak.length:Int)≤k
   ·exact Or.inr (Or.inl ⟨a,c⟩)
   ·refine Or.inr (Or.inr ⟨a,c,?_⟩)
    cases hR:rootB M r with
    | false=>rfl
    | true=>exact absurd (by unfold lookC;rw[hR,decide_eq_true (by omega),decide_eq_true (by omega)];rfl) hc
 clear hH hI hE hc
 rcases h3 with a|⟨a,c⟩|⟨a,c,hR⟩
 ·have k3:=HE.out.place
  clear q0 c8
  go_enter Tryz.func71,Tryz.ntmps71
  go_upto_region 2 with fail
  go_region
  go_wp2
  go_ret2
  exact⟨rfl,(Ext.refl _).drew_⟩
 ·have k3:=HE.out.place
  go_enter Tryz.func71,Tryz.ntmps71
  go_upto_region 2 with fail
  go_region
  go_wp2
  go_ret2
  exact⟨rfl,(Ext.refl _).drew_⟩
 ·have HR:=Lib.hid hR
  clear hR
  go_enter Tryz.func71,Tryz.ntmps71
  go_upto_region 2 with (go_at_call 40;refine (root1_any _ (HH.out.ext ((Ext.refl w).alloc_ _)) HI.out.ok w.heap.size r hr0.1 hr0.2 (by rw[World.cell?,heap_alloc_new];rfl)).mono ?_;rintro e w1 ⟨he,hq⟩;rw[HR.out] at he;subst he;have HX1:Hid (Ext w w1):=((Ext.refl w).alloc_ _).trans_ hq;clear hq)
  have k3:=(HE.out.ext HX1.out).place
  go_region
  go_wp2
  go_ret2
  exact⟨rfl,HX1.out.drew_⟩
theorem look_walk (w:World) (hH:OHeap w B hb b M S ten nx) (hI:HInv M nx) (hE:G4 E w) (k r:Int) (hr0:-9223372036854775808≤r∧r≤9223372036854775807) (hc:lookC M k r=0) :
  Calls Tryz.prog 71 #[.pointer (some ⟨hb,0,none⟩),.int .i64 k,.int .i64 r] w (HPost w B hb b S ten (rootM M r.toNat (M.weak.getD k.toNat 0)) nx (.tuple #[.bool (kindW (M.weak.getD k.toNat 0)==0),errC E 0])):=by
 have HH:=Lib.hid hH
 have HI:=Lib.hid hI
 have HE:=Lib.hid hE
 have h2:(0≤k∧k<(M.weak.length:Int))∧rootB M r=true:=by
  unfold lookC at hc
  split at hc
  ·rename_i h
   simp only[Bool.and_eq_true,decide_eq_true_eq] at h
   exact h
  ·cases hc
 obtain⟨⟨k0,k1⟩,hR⟩:=h2
 obtain⟨r0,r1⟩:=rootB_true.1 hR
 obtain⟨kn,rfl⟩:∃ kn:Nat,k=(kn:Int):=⟨k.toNat,by omega⟩
 obtain⟨rn,rfl⟩:∃ rn:Nat,r=(rn:Int):=⟨r.toNat,by omega⟩
 simp only[Int.toNat_natCast]
 have hkl:kn<M.weak.length:=by omega
 have hrl:rn<M.roots.length:=by omega
 have a:¬(kn:Int)<0:=by omega
 have c:¬(M.weak.length:Int)≤(kn:Int):=by omega
 have HR:=Lib.hid hR
 have q0:=hH.ptr
 have c8:=(hH.mem.mem hI.ok).weak
 simp only[Nat.zero_add] at c8
 have hub:0≤M.weak.getD kn 0∧M.weak.getD kn 0≤18446744073709551615:=getD_in (P:=fun x=>0≤x∧x≤18446744073709551615) hI.ok.weak hkl
 have h0:errC E 0=.nilIface:=rfl
 rw[h0]
 obtain⟨u,hu⟩:∃ u,u=M.weak.getD kn 0:=⟨_,rfl⟩
 rw[←hu] at hub ⊢
 have HU:=Lib.hid hu
 have hC8:=Lib.hid c8
 clear hH hI hE hc hR hu h0 r0 r1 k0 k1
 go_enter Tryz.func71,Tryz.ntmps71
 go_upto_region 3 with (go_at_call 40;refine (root1_any _ (HH.out.ext ((Ext.refl w).alloc_ _)) HI.out.ok w.heap.size (rn:Int) hr0.1 hr0.2 (by rw[World.cell?,heap_alloc_new];rfl)).mono ?_;rintro e w1 ⟨he,hq⟩;rw[HR.out] at he;subst he;have HX1:Hid (Ext w w1):=((Ext.refl w).alloc_ _).trans_ hq;clear hq)
 have hH1:=HH.out.ext HX1.out
 have q1:=hH1.ptr
 obtain⟨g,hg,-,-,hgf,-,-⟩:=own_block (OMem.fR hH1.mem) (by omega)
 have hfg:=hgf rn
 have hM1:=hH1.mem.mem HI.out.ok
 have c7:=hM1.roots
 have d8:=hM1.weak
 simp only[Nat.zero_add] at c7 d8
 obtain⟨kb,ko,hKa,hcK⟩:=hM1.rK kn _ (wcells_at M.weak kn hkl)
 rw[←HU.out] at hcK
 rw[hKa] at d8
 have hrow:=hM1.rR
 rw[hg] at hrow c7
 have hcel2:=hrow.at_ (wcells_at M.roots rn hrl)
 simp only[Nat.zero_add] at hcel2
 have hkz:(kn:Int)<(M.weak.length:Int):=by omega
 have hrz:(rn:Int)<(M.roots.length:Int):=by omega
 have HG:=Lib.hid hg
 have HRL:=Lib.hid hrl
 generalize M.roots.getD rn 0=yy at *
 clear q0 c8 hH1 hgf hg hrow hM1 hKa
 go_wp2_with (go_at_call 103;refine (kind_any _ hub.1 hub.2 _).mono ?_;rintro e w9 ⟨rfl,hw9⟩;have hw9:=hw9.symm;subst hw9)
 go_ret2
 obtain⟨z1,z2⟩:=(HH.out.ext HX1.out).step (OMem.setR (HH.out.ext HX1.out).mem HG.out rn HRL.out u) (Keep.set_ (L:=OwnA b S) (Keep.refl _ _) (p:=⟨g,rn,none⟩) (Or.inl (Or.inr (Or.inr (Or.inl HG.out)))) _) (fun _ q=>Or.inl q)
 exact⟨rfl,S,z1,(HStep.of_ext HX1.out).trans_ z2⟩
end
section
variable {M:Mem} {ten nx:Int}
theorem addr_fld {N:Mem} {lN lO:List Nat} (hg:Good N lN lO) {a:Nat} (ha:a∈lN++lO):fldB (stL lN lO) (addrW (a:Int))=true:=by
 have hs:=hg.shp
 obtain⟨h1,h2,h3,h4,h5,h6,h7,h8,h9,h10,h11,h12,h13,h14⟩:=hs
 have hin:=hg.inW ha
 unfold fldB
 have hk:kindW (addrW (a:Int))=0:=(addrW_wd _).2.2
 rw[if_pos hk,placeW_addrW _ (by omega),Bool.or_eq_true]
 exact Or.inr (stL_mem.2 ha)
theorem make_inv (ht:0≤ten∧ten≤15) (h:HInv M nx) (kind:Int) (sz:Nat) (hk:0≤kind∧kind≤255) (hz:sz≤4096) (hc:objC M ten sz=0) (r:Nat) :
  HInv (rootM (objM M ten kind sz) r (addrW (objPl M ten sz))) nx∧SameH M (rootM (objM M ten kind sz) r (addrW (objPl M ten sz))):=by
 obtain⟨i1,i2,i3⟩:=objM_inv ht h kind sz hk hz
 obtain⟨a,ha,hN⟩:=i3 hc
 obtain⟨lN,lO,hg,hm⟩:=hN.good
 rw[ha]
 obtain⟨k1,k2⟩:=rootM_inv i1 hg r (addrW (a:Int)) ⟨(addrW_wd _).1,(addrW_wd _).2.1⟩ (addr_fld hg hm)
 exact⟨k1,i2.trans k2⟩
theorem root_in (h:HInv M nx) {s:Nat} (hs:s<M.roots.length):0≤M.roots.getD s 0∧M.roots.getD s 0≤18446744073709551615:=getD_in (P:=fun x=>0≤x∧x≤18446744073709551615) h.ok.roots hs
theorem copyR_inv (h:HInv M nx) (r s:Nat) (hs:s<M.roots.length):HInv (rootM M r (M.roots.getD s 0)) nx∧SameH M (rootM M r (M.roots.getD s 0)):=by
 obtain⟨lN,lO,hg⟩:=good_of h.chk
 exact rootM_inv h hg r _ (root_in h hs) (getD_in hg.roots hs)
theorem put_inv (h:HInv M nx) {r f s:Int} (hc:fieldC M r f s=0):HInv (storeM M (fieldP M r f) (M.roots.getD s.toNat 0)) nx∧SameH M (storeM M (fieldP M r f) (M.roots.getD s.toNat 0)):=by
 have hgM:=(chk_zero h.chk).1
 obtain⟨rn,sn,fn,x,h1,h2,h3,hrl,hsl,hx,hpl,hraw,hfn,hP⟩:=fieldC_ok hgM hc
 have hsn:s.toNat=sn:=by omega
 rw[hP,hsn]
 have hv:=root_in h hsl
 have hk:=store_chk h.ok h.chk hx fn hfn _ (fieldsB_at (good_parts hgM).2.2.1 hsl)
 obtain⟨e1,e2,e3,e4,e5,e6,e7,e8,e9⟩:=storeM_same M (x.a+1+fn) (M.roots.getD sn 0)
 exact⟨⟨storeM_ok h.ok _ _ hv.1 hv.2,hk,h.nx1,by rw[e9];exact h.ids⟩,⟨e1,e2,e3,by rw[e7],by rw[e8],by rw[e9];exact Nat.le_refl _⟩⟩
theorem weak_inv (h:HInv M nx) {s:Nat} (hs:s<M.roots.length) (hl:M.weak.length≤1000000):HInv {M with weak:=M.weak++[M.roots.getD s 0]} nx:=by
 obtain⟨lN,lO,hg⟩:=good_of h.chk
 exact weakM_inv h hg _ (root_in h hs) (getD_in hg.roots hs) hl
end
end Go.Proofs.YtelhoppfidibiaaGreatDoor
