/- The walk of word.Bytes. -/
import Derived.Test.YtelhoppfidibiaaGreatDoorJTa36
import Derived.Test.YtelhoppfidibiaaGreatDoorJTa01
import Derived.OwnWalk
import Derived.Laws.OwnMore
import Derived.Test.YtelhoppfidibiaaGreatDoorJTa22
import Derived.Lib.SlBytesRow
import Derived.Test.YtelhoppfidibiaaGreatDoorJTa07
import Derived.Test.YtelhoppfidibiaaGreatDoorJTa08
import Derived.Test.YtelhoppfidibiaaGreatDoorJTa32
import Derived.Test.YtelhoppfidibiaaGreatDoorJTa16
import Derived.Deep.CutRange
set_option linter.unusedSimpArgs false
set_option linter.unusedVariables false
set_option maxHeartbeats 4000000
set_option maxRecDepth 100000
namespace Go.Proofs.YtelhoppfidibiaaGreatDoor
open Go.RowKit
def bnums (s:ByteArray):List Int:=s.data.toList.map fun b=>(b.toNat:Int)
def wcellsB (l:List Int):List Value:=l.map fun x=>Value.int .u64 x
theorem bnums_len (s:ByteArray):(bnums s).length=s.size:=by
 unfold bnums;rw[List.length_map];rfl
theorem bnums_bound (s:ByteArray):∀ b∈bnums s,0≤b∧b≤255:=fun b hb=>by
 simp only[bnums,List.mem_map] at hb
 obtain⟨x,_,rfl⟩:=hb
 have:=x.toNat_lt
 omega
theorem bnums_at (s:ByteArray) (k:Nat) (h:k<s.size):(bnums s).getD k 0=(s[k].toNat:Int):=by
 have h':k<s.data.toList.length:=h
 rw[List.getD_eq_getElem?_getD,bnums,List.getElem?_map,List.getElem?_eq_getElem h']
 rfl
theorem byteP_small (s:List Int) (h:∀ b∈s,0≤b∧b≤255) (k:Nat) (hk:k≤s.length):0≤byteP s k (k/8)∧byteP s k (k/8)<p8 (k%8):=by
 have h1:=leW_bound (((s.take k).drop (8*(k/8))).take 8) fun b hb=>h b (List.mem_of_mem_take (List.mem_of_mem_drop (List.mem_of_mem_take hb)))
 have h2:(((s.take k).drop (8*(k/8))).take 8).length=k%8:=by simp;omega
 rw[h2] at h1
 exact h1
theorem or_byte (x c:Int) (j:Nat) (hj:j<8) (hx:0≤x∧x<p8 j) (hc:0≤c∧c≤255) :
  bits .or .u64 x (IntKind.u64.wrap (IntKind.u64.wrap c*2^(j*8)))=x+c*p8 j:=by
 have e:IntKind.u64.wrap c=c:=wraps_u64 c (by omega) (by omega)
 have ej:(2:Int)^(j*8)=p8 j:=by unfold p8;rw[Nat.mul_comm]
 have hp:=p8_pos j
 have hj':j=0∨j=1∨j=2∨j=3∨j=4∨j=5∨j=6∨j=7:=by omega
 rw[e,ej,bits_or_comm]
 rcases hj' with rfl|rfl|rfl|rfl|rfl|rfl|rfl|rfl<;>simp only[p8] at*<;>
  (rw[wraps_u64 _ (by omega) (by omega),or_u64 _ _ _ (by omega) (by omega) (by omega) (by omega) (show x<2^_ from hx.2) (by omega)];omega)
theorem infoU64:(Tryz.prog.info? 78).map (fun i=>(i.zero,i.size,i.bytes))=some (some (.int .u64 0),1,8):=by kernel_rfl
theorem undU64s:Tryz.prog.underlying 76=some (.slice 78):=by kernel_rfl
theorem bytes_walk (s:ByteArray) (hs:s.size≤35184372088832) (w:World) :
  Calls Tryz.prog 153 #[.string s] w fun e w'=>e=.returned (.slice (some ⟨w.heap.size,0,none⟩) ((s.size+7)/8) ((s.size+7)/8)) ∧
   w'.ownsRow w.heap.size 78 1 (.slice (some ⟨w.heap.size,0,none⟩) ((s.size+7)/8) ((s.size+7)/8)) ((s.size+7)/8) (wcellsB (bytesW (bnums s)))∧Ext w w':=by
 obtain⟨i0,hi,hz0,hz1,hz2⟩:=info_parts infoU64
 have hm0:(0:Int)≤(s.size:Int)+7:=by omega
 go_enter Tryz.func153,Tryz.ntmps153
 go_wp2_with (first
  | (refine wpList_make_full _ rfl _ _ 76 rfl w.heap.size 78 i0 (.int .u64 0) 1 undU64s hi hz0 hz1 .i64 .i64 (((s.size:Int)+7)/8) (((s.size:Int)+7)/8) ((s.size+7)/8) rfl rfl (by omega) (by omega) (by rw[hz2];omega) (by unfold maxLen;omega) (Nat.le_refl _) ?_;intro w1 hown hgrow;have hbel0:Below w.heap.size w w1:=(Below.refl _ _).grown hgrow (Nat.le_refl _) (by simp);clear hgrow))
 generalize hM:(s.size+7)/8=m at hown ⊢
 go_loopw [4,12] (fun t i wr=>∃ k:Nat,k≤s.size∧i=.int .i64 k∧wr.ownsRow w.heap.size 78 1 (.slice (some ⟨w.heap.size,0,none⟩) m m) m (wcellsB (bytesP (bnums s) k m))∧Below w.heap.size w wr)
  (fun _ i _=>s.size-(intOf i).toNat)
 case atStart =>
  refine⟨0,Nat.zero_le _,rfl,?_,hbel0⟩
  rw[bytesP_zero]
  rw[show (Value.int .u64 0).cells=#[Value.int .u64 0] from rfl,Nat.mul_one,toList_madeCells_one] at hown
  simpa [wcellsB] using hown
 case round =>
  obtain⟨k,hk,rfl,hrow,hbel⟩:=hrel
  have hsz:=hbel.size
  have hcell:k<s.size→wr.cell? ⟨w.heap.size,k/8,none⟩=some (.int .u64 (byteP (bnums s) k (k/8))):=fun h=>by
   rw[hrow.cellAt (k/8) (by omega)]
   simp[wcellsB,bytesP,show k/8<m from by omega]
  have hfr:wr.frozen? ⟨w.heap.size,k/8,none⟩=false:=hrow.frozenAt _
  have hlt8:k<s.size→k/8<m:=by omega
  have hbt:=byteP_bound (bnums s) (bnums_bound s) k (k/8)
  clear hown
  have hN:Hid ((s.size+7)/8=m):=hM
  clear hM
  go_wp2
  ·have hc1:=hcell (by assumption)
   have hm1:=hlt8 (by assumption)
   clear hcell hlt8
   go_region
   go_wp2
   go_roundw
   case rel =>
    have hor:=or_byte (byteP (bnums s) k (k/8)) (s[k].toNat:Int) (k%8) (by omega) (byteP_small _ (bnums_bound s) k (by rw[bnums_len];omega)) (bnums_bound s _ (by rw[←bnums_at s k (by assumption)];simp[List.getD_eq_getElem?_getD,bnums_len,(by assumption:k<s.size)]))
    refine⟨k+1,by omega,rfl,?_,?_⟩
    ·rw[hor,←bytesP_step (bnums s) k m (by rw[bnums_len];assumption),bnums_at s k (by assumption)]
     have:=(hrow.stored (k/8) (.int .u64 (byteP (bnums s) k (k/8)+(s[k].toNat:Int)*p8 (k%8)))).1
     simpa [wcellsB,List.map_set] using this.drew
    ·exact (hbel.setCell (Nat.le_refl _) _).drew
   case measure=>simp[intOf];omega
  ·go_ret
   have hkk:k=s.size:=by omega
   have hM':(s.size+7)/8=m:=hN
   have hb:=bytesP_all (bnums s)
   rw[bnums_len] at hb
   rw[hM',←hb,hM',←hkk]
   exact⟨rfl,hrow,hbel⟩
def tbyte (ws:List Int) (i:Nat):Int:=ws.getD (i/8) 0/p8 (i%8)%256
def textP (ws:List Int) (k n:Nat):List Int:=(List.range n).map fun i=>if i<k then tbyte ws i else 0
theorem textP_zero (ws:List Int) (n:Nat):textP ws 0 n=List.replicate n 0:=by
 unfold textP
 apply List.ext_getElem?
 intro j
 by_cases hj:j<n<;>simp[hj]
theorem textP_step (ws:List Int) (k n:Nat) (hk:k<n):(textP ws k n).set k (tbyte ws k)=textP ws (k+1) n:=by
 apply List.ext_getElem?
 intro j
 unfold textP
 rw[List.getElem?_set]
 by_cases he:k=j
 ·subst he;simp[hk]
 ·by_cases hj:j<n
  ·have:(j<k+1)=(j<k):=propext ⟨fun h=>by omega,fun h=>by omega⟩
   simp[he,hj,this]
  ·simp[he,hj]
def tailW (W:List Int) (a m:Nat):List Int:=(List.range m).map fun j=>wat W (a+2+j)
def textOf (W:List Int) (a:Nat):ByteArray:=strOfNums (textP (tailW W a (((wat W (a+1)).toNat+7)/8)) (wat W (a+1)).toNat (wat W (a+1)).toNat)
def longOf (W:List Int) (a:Nat):Int:=wrap64 (wat W (a+1))
def bodyS (W:List Int) (l:List Ob) (x:Ob) (out:ByteArray):ByteArray :=
 if hKind x.w=1 then (out++⟨#[32]⟩)++decS (longOf W x.a) else if hKind x.w=2 then (out++⟨#[32]⟩)++quotedP (textOf W x.a) else fieldsS l (hKind x.w) (fldsW W x) out
def objsT (W:List Int) (l:List Ob):Nat→List Ob→ByteArray→ByteArray
 | _,[],out=>out
 | i,x::xs,out=>objsT W l (i+1) xs (bodyS W l x (headS i (hKind x.w) out)++⟨#[10]⟩)
def showS (M:Mem):ByteArray:=objsT M.W (reachP M) 0 (reachP M) (rootsS (reachP M) M.roots ⟨#[]⟩)
theorem longOf_in (W:List Int) (a:Nat):-9223372036854775808≤longOf W a∧longOf W a≤9223372036854775807:=by unfold longOf wrap64;omega
structure RawOk (W:List Int) (x:Ob):Prop where
 kind:hKind x.w=1∨hKind x.w=2∨8≤hKind x.w
 one:hKind x.w=1→x.n=1
 two:hKind x.w=2→0≤wat W (x.a+1)∧wat W (x.a+1)≤2000∧x.n=1+((wat W (x.a+1)).toNat+7)/8
theorem textOf_size (W:List Int) (a:Nat):(textOf W a).size=(wat W (a+1)).toNat:=by
 unfold textOf
 rw[strOfNums_size]
 unfold textP;simp
theorem infoU8:(Tryz.prog.info? 5).map (fun i=>(i.zero,i.size,i.bytes))=some (some (.int .u8 0),1,1):=by kernel_rfl
theorem undU8s:Tryz.prog.underlying 107=some (.slice 5):=by kernel_rfl
theorem text_yes (b off m c:Nat) (ws:List Int) (n:Nat) (hm:m≤35184372088832) (hn:n≤8*m) (hw:∀ x∈ws,0≤x∧x≤18446744073709551615) (w:World) (hb:b<w.heap.size)
  (hc:∀ j,j<m→w.cell? ⟨b,off+j,none⟩=some (.int .u64 (ws.getD j 0))) :
  Calls Tryz.prog 118 #[.slice (some ⟨b,off,none⟩) m c,.int .i64 n] w fun e w'=>e=.returned (.tuple #[.string (strOfNums (textP ws n n)),.nilIface])∧Ext w w':=by
 obtain⟨i0,hi,hz0,hz1,hz2⟩:=info_parts infoU8
 go_enter Tryz.func118,Tryz.ntmps118
 go_wp2_with (first
  | (refine wpList_make_full _ rfl _ _ 107 rfl w.heap.size 5 i0 (.int .u8 0) 1 undU8s hi hz0 hz1 .i64 .i64 (n:Int) (n:Int) n rfl rfl (by omega) (by omega) (by rw[hz2];omega) (by unfold maxLen;omega) (Nat.le_refl _) ?_;intro w1 hown hgrow;have hbel0:Below w.heap.size w w1:=(Below.refl _ _).grown hgrow (Nat.le_refl _) (by simp);clear hgrow))
 go_loopw [7,22] (fun t i wr=>∃ k:Nat,k≤n∧i=.int .i64 k∧wr.ownsRow w.heap.size 5 1 (.slice (some ⟨w.heap.size,0,none⟩) n n) n ((textP ws k n).map (Value.int .u8))∧Below w.heap.size w wr)
  (fun _ i _=>n-(intOf i).toNat)
 case atStart =>
  refine⟨0,Nat.zero_le _,rfl,?_,hbel0⟩
  rw[textP_zero]
  rw[show (Value.int .u8 0).cells=#[Value.int .u8 0] from rfl,Nat.mul_one,toList_madeCells_one] at hown
  simpa using hown
 case round =>
  clear hown
  obtain⟨k,hk,rfl,hrow,hbel⟩:=hrel
  have hsz:=hbel.size
  have hcell:k<n→wr.cell? ⟨b,off+k/8,none⟩=some (.int .u64 (ws.getD (k/8) 0)):=fun h=>by
   rw[hbel.cell hb];exact hc _ (by omega)
  have hlt8:k<n→k/8<m:=by omega
  have hfr:wr.frozen? ⟨w.heap.size,k,none⟩=false:=hrow.frozenAt _
  have hold:k<n→wr.cell? ⟨w.heap.size,k,none⟩=some (.int .u8 0):=fun h=>by
   rw[hrow.cellAt k (by omega)];simp[textP,h]
  have hconv:Hid (k=n→(convert 107 9 (.slice (some ⟨w.heap.size,0,none⟩) n n)).run Tryz.prog wr=.ok (.string (strOfNums (textP ws n n))) wr):=fun h=>by
   subst h
   refine run_convert_bytes_arg wr _ _ undU8s (by kernel_rfl) _ 0 k k (textP ws k k) (by simp[textP]) (fun i hi=>?_) _ (by kernel_rfl)
   rw[Nat.zero_add,hrow.cellAt i (by omega)]
   simp[textP,hi]
  go_wp2
  ·have hkn:k<n:=by assumption
   refine⟨⟨k+1,by omega,rfl,?_,hbel.setCell (Nat.le_refl _) _⟩,by simp[intOf];omega⟩
   rw[←textP_step ws k n hkn]
   have:=(hrow.stored k (.int .u8 (tbyte ws k))).1
   simpa [List.map_set,tbyte,p8,Nat.mul_comm,List.getD_eq_getElem?_getD] using this
  ·have hcv:=hconv (by omega)
   go_wp2
   rw[hcv]
   go_wp2
   go_ret2
   exact⟨rfl,hbel⟩
theorem run_partB {P:Program} {t e:TypeId} (ht:P.underlying t=some (.slice e)) (hz:∀ w,(sizeOf e).run P w=.ok 1 w) (b off len cap l h:Nat) (i j:Int) (hi:i=(l:Int)) (hj:j=(h:Int)) (hl:l≤h) (hh:h≤cap) :
  ∃ o C,(∀ w':World,(Instr.slice t (.slice (some ⟨b,off,none⟩) len cap) (some (.int .i64 i)) (some (.int .i64 j)) none).run P w'=.ok (.slice (some ⟨b,o,none⟩) (h-l) C) w')∧h-l≤C ∧
   ∀ (w:World) (cs:List Value),RSl w (some ⟨b,off,none⟩) cs→RSl w (some ⟨b,o,none⟩) ((cs.drop l).take (h-l)):=by
 have he:P.elem t=e:=by simp[Program.elem,ht]
 have ht':P.underlying t=some (.slice (P.elem t)):=by rw[he];exact ht
 refine⟨if cap=l then off else off+l,cap-l,fun w'=>?_,by omega,fun w cs hR=>?_⟩
 ·subst hi hj
  rw[run_slice_lh w' t (some ⟨b,off,none⟩) len cap ht' .i64 .i64 (l:Int) (h:Int) (by omega) (by omega) (by omega),he,hz]
  simp[Result.andThen,sliced,Addr.add]
  split
  ·rfl
  ·split
   ·rename_i h0;subst h0;simp
   ·rfl
 ·split
  ·have:h-l=0:=by omega
   rw[this,List.take_zero]
   exact RSl.nil _ _
  ·intro k u hu
   rw[List.getElem?_take] at hu
   split at hu
   ·rw[List.getElem?_drop] at hu
    obtain⟨b',off',ha,hc⟩:=hR _ _ hu
    injection ha with ha
    injection ha with h1 h2
    subst h1 h2
    exact⟨b,off+l,rfl,by rw[show off+l+k=off+(l+k) by omega];exact hc⟩
   ·cases hu
theorem tail_cells (W:List Int) (a m:Nat) (h:a+2+m≤W.length):((wcells W).drop (a+2)).take (a+2+m-(a+2))=wcells (tailW W a m):=by
 rw[show a+2+m-(a+2)=m by omega]
 apply List.ext_getElem?
 intro i
 rw[List.getElem?_take]
 by_cases hi:i<m
 ·rw[if_pos hi,List.getElem?_drop]
  simp[wcells,tailW,wat,hi,List.getD_eq_getElem?_getD,show a+2+i<W.length by omega]
 ·rw[if_neg hi,List.getElem?_eq_none (by simp[wcells,tailW];omega)]
section
variable {M:Mem} {S:Sls} {hb b:Nat}
theorem long_walk (a:Nat) (w:World) (hM:RMem w b 0 M S) (hp:w.cell? ⟨hb,0,none⟩=some (.pointer (some ⟨b,0,none⟩))) (ha:a+1<M.W.length) (hl:M.W.length≤1000000000) :
  Calls Tryz.prog 59 #[.pointer (some ⟨hb,0,none⟩),.int .i64 (a:Int)] w fun e w'=>e=.returned (.int .i64 (longOf M.W a))∧Ext w w':=by
 obtain⟨wb,wo,hWa,hcW⟩:=hM.rW (a+1) _ (wcells_at M.W (a+1) ha)
 have c3:=hM.W
 simp only[Nat.zero_add] at c3
 rw[hWa] at c3
 have hcW':w.cell? ⟨wb,wo+(a+1),none⟩=some (.int .u64 (wat M.W (a+1))):=hcW
 have hl1:=cell_lt hp
 have hl2:=cell_lt c3
 have hl3:=cell_lt hcW'
 have e1:IntKind.i64.wrap ((a:Int)+1)=((a+1:Nat):Int):=by rw[IntWalk.i64_in _ (by omega)];omega
 have hlt:((a+1:Nat):Int)<(M.W.length:Int):=by omega
 unfold longOf
 generalize wat M.W (a+1)=u at *
 clear hM hWa hcW
 go_enter Tryz.func59,Tryz.ntmps59
 go_wp2
 go_ret
 exact⟨rfl,by repeat (first|exact Ext.refl _|(refine Ext.drew_ ?_))⟩
theorem hbytes_walk (a:Nat) (w:World) (hM:RMem w b 0 M S) (hp:w.cell? ⟨hb,0,none⟩=some (.pointer (some ⟨b,0,none⟩))) (hn:0≤wat M.W (a+1)∧wat M.W (a+1)≤2000) (ha:a+2+((wat M.W (a+1)).toNat+7)/8≤M.W.length) (hl:M.W.length≤1000000000) :
  Calls Tryz.prog 61 #[.pointer (some ⟨hb,0,none⟩),.int .i64 (a:Int)] w fun e w'=>e=.returned (.string (textOf M.W a))∧Ext w w':=by
 obtain⟨wb,wo,hWa,hcW⟩:=hM.rW (a+1) _ (wcells_at M.W (a+1) (by omega))
 have c3:=hM.W
 simp only[Nat.zero_add] at c3
 rw[hWa] at c3
 have hcW':w.cell? ⟨wb,wo+(a+1),none⟩=some (.int .u64 (wat M.W (a+1))):=hcW
 have hcap:=hM.capW
 have hl1:=cell_lt hp
 have hl2:=cell_lt c3
 have hl3:=cell_lt hcW'
 have e1:IntKind.i64.wrap ((a:Int)+1)=((a+1:Nat):Int):=by rw[IntWalk.i64_in _ (by omega)];omega
 have hlt:((a+1:Nat):Int)<(M.W.length:Int):=by omega
 obtain⟨n,hnn⟩:∃ n:Nat,wat M.W (a+1)=(n:Int):=⟨(wat M.W (a+1)).toNat,by omega⟩
 obtain⟨o,C,hsl,hC,hRA⟩:=run_partB (P:=Tryz.prog) undU64 sizeU64 wb wo M.W.length S.W.2 (a+2) (a+2+(n+7)/8) ((a:Int)+2) ((a:Int)+2+((n:Int)+7)/8) (by omega) (by omega) (by omega) (by rw[hnn] at ha;omega)
 have hR:=hRA w _ (hWa ▸ hM.rW)
 rw[tail_cells M.W a ((n+7)/8) (by rw[hnn] at ha;omega)] at hR
 rw[show a+2+(n+7)/8-(a+2)=(n+7)/8 by omega] at hsl hC
 have ht:textOf M.W a=strOfNums (textP (tailW M.W a ((n+7)/8)) n n):=by unfold textOf;rw[hnn,Int.toNat_natCast]
 have hws:∀ x∈tailW M.W a ((n+7)/8),0≤x∧x≤18446744073709551615:=fun x hx=>by
  obtain⟨j,-,rfl⟩:=List.mem_map.1 hx
  exact wat_in hM.ok _
 have hwl:(tailW M.W a ((n+7)/8)).length=(n+7)/8:=by simp[tailW]
 have e2:IntKind.i64.wrap ((a:Int)+2)=(a:Int)+2:=IntWalk.i64_in _ (by omega)
 have hn2:n≤2000:=by omega
 have e3:IntKind.i64.wrap ((n:Int)+7)=(n:Int)+7:=IntWalk.i64_in _ (by omega)
 have e4:((n:Int)+7).tdiv 8=((n:Int)+7)/8:=Int.tdiv_eq_ediv_of_nonneg (by omega)
 have e5:IntKind.i64.wrap (((n:Int)+7)/8)=((n:Int)+7)/8:=IntWalk.i64_in _ (by omega)
 have e6:IntKind.i64.wrap ((a:Int)+2+((n:Int)+7)/8)=(a:Int)+2+((n:Int)+7)/8:=IntWalk.i64_in _ (by omega)
 have e7:IntKind.i64.wrap (n:Int)=(n:Int):=IntWalk.i64_in _ (by omega)
 rw[ht]
 rw[hnn] at hcW'
 obtain⟨m,hm⟩:∃ m,(n+7)/8=m:=⟨_,rfl⟩
 rw[hm] at hwl hws hR hsl hC ⊢
 obtain⟨q,hq⟩:∃ q:Int,((n:Int)+7)/8=q:=⟨_,rfl⟩
 rw[hq] at hsl e4 e5 e6
 generalize tailW M.W a m=ws at *
 have HCL:Hid (∀ j,j<m→w.cell? ⟨wb,o+j,none⟩=some (.int .u64 (ws.getD j 0))):=fun j hj=>by
  obtain⟨b',o',e,hc⟩:=hR j _ (wcells_at ws j (by omega))
  injection e with e
  injection e with h1 h2
  subst h1 h2
  rw[hc,List.getD_eq_getElem?_getD,List.getElem?_eq_getElem (by omega)]
 have HWS:=Lib.hid hws
 have HWL:=Lib.hid hwl
 have hm5:m≤35184372088832:=by omega
 have hn8:n≤8*m:=by omega
 clear hM hWa hcW hRA ht hn ha hnn hR hws hwl hm hq
 go_enter Tryz.func61,Tryz.ntmps61
 go_wp2_with (go_at_call 118;refine (text_yes wb o m C ws n hm5 hn8 HWS.out _ (by first|exact hl3|(simp;exact hl3)) (fun j hj=>Ext.cell_ (by repeat (first|exact Ext.refl _|(refine Ext.drew_ ?_)|(refine Ext.drewN_ ?_ _))) (HCL.out j hj))).mono ?_;rintro e w1 ⟨rfl,hq⟩;have HX1:Hid (Ext w w1):=Ext.trans_ (by repeat (first|exact Ext.refl _|(refine Ext.drew_ ?_)|(refine Ext.drewN_ ?_ _))) hq;clear hq)
 go_ret
 exact⟨rfl,HX1.out⟩
end
end Go.Proofs.YtelhoppfidibiaaGreatDoor
